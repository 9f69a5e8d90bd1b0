import Derived.Test.YteihhmonnbeekaaDoorSa
namespace Go.Proofs.YteihhmonnbeekaaDoor
open Go Go.Proofs.YteihhmonnbeekaaDoor.Vs

theorem szFS_small : ∀ {xs : List Fd} {l : Int}, 0 ≤ l → l ≤ 1048576 → ¬ szFS l xs < 0 → ∀ x ∈ xs, (sb x.2).length ≤ 1048576
  | [], l, _, _, _, x, hx => by simp at hx
  | y :: r, l, h0, h1, h, x, hx => by
    rw [szFS] at h
    split at h
    · omega
    · rename_i h2
      have hle := szF_le (a := y.1) (b := y.2) h0
      rcases List.mem_cons.1 hx with rfl | hx
      · unfold szF at h2
        split at h2
        · omega
        · split at h2 <;> omega
      · exact szFS_small (by omega) (by omega) h x hx
theorem szL_small {xs : List Fd} {l : Int} (h0 : 0 ≤ l) (h1 : l ≤ 1048576) (h : ¬ szL l xs < 0) : xs.length ≤ 1048576 ∧ ∀ x ∈ xs, (sb x.2).length ≤ 1048576 := by
  unfold szL at h
  split at h
  · omega
  · exact ⟨by omega, szFS_small (by omega) (by omega) h⟩
theorem szR_small {r : Rsp} {l : Int} (h0 : 0 ≤ l) (h1 : l ≤ 1048576) (h : ¬ szR l r < 0) : r.fs.length ≤ 1048576 ∧ ∀ x ∈ r.fs, (sb x.2).length ≤ 1048576 := by
  unfold szR at h
  split at h
  · omega
  · rename_i h2; exact szL_small h0 h1 h2
theorem szO_small {o : Obj} {l : Int} (h1 : l ≤ 1048576) (h : ¬ szO l o < 0) : (o.fs.length ≤ 1048576 ∧ ∀ x ∈ o.fs, (sb x.2).length ≤ 1048576) ∧ (o.r.fs.length ≤ 1048576 ∧ ∀ x ∈ o.r.fs, (sb x.2).length ≤ 1048576) ∧ szO l o ≤ 1048576 := by
  unfold szO at h ⊢
  split at h
  · omega
  · rename_i h2
    split at h
    · omega
    · rename_i h3
      split at h
      · omega
      · rename_i h4
        have e1 := szL_le (xs := o.fs) (l := l - (sb o.key).length) (by omega)
        have e2 := szR_le (r := o.r) (l := szL (l - (sb o.key).length) o.fs) (by omega)
        rw [if_neg h2, if_neg h3, if_neg h4]
        exact ⟨szL_small (by omega) (by omega) h3, szR_small (by omega) (by omega) h4, by omega⟩

set_option maxRecDepth 100000 in
set_option maxHeartbeats 4000000 in
theorem renewed_law (o : Obj) (r : Rsp) (a g : Int) (ho : o.ok) (hr : r.ok) : VC Tryd.prog 4 [o.rd, r.rd, .val (.int .i64 a), .val (.int .i64 g)] (.val (.bool true)) := by
  refine VC.intro hΘ Tryd.func4 rfl rfl Tryd.ntmps4 rfl rfl rfl fun B hB => ?_
  (conv => whnf)
  refine call_i (x := szO 1048576 o) rfl (szObject_c o 1048576 (by decide) (by decide) ho) (f1 (fa (l1 (fv rfl) (l1 (fr rfl rfl) (l1 (fv rfl) (l1 (fr rfl rfl) (l1 (fv rfl) (l1 (fv rfl) (l1 (fv rfl) (l1 (fv rfl) l0))))))))) (f1 (av rfl) f0)) fun l hl => ?_
  (conv => whnf)
  refine brm_p (fun h => ?_) (fun h => ?_) <;> (conv => whnf)
  · exact vfin_bool rfl
  rw [hl] at h
  obtain ⟨⟨s1, s2⟩, ⟨s3, s4⟩, s5⟩ := szO_small (by decide) h
  rw [← hl] at s5 h
  clear hl
  refine call_i (x := szR l r) rfl (szResponse_c r l (by omega) (by omega) hr) (f1 (fa (l1 (fv rfl) (l1 (fr rfl rfl) (l1 (fv rfl) l0)))) (f1 (av rfl) f0)) fun z hz => ?_
  (conv => whnf)
  refine brm_p (fun h' => ?_) (fun h' => ?_) <;> (conv => whnf)
  · exact vfin_bool rfl
  rw [hz] at h'
  obtain ⟨s6, s7⟩ := szR_small (by omega) (by omega) h'
  clear h'
  have cS := renewedS_c o r a g ho hr s4 s3 s7 s6
  have cI := renewedI_c o r a g ho hr
  obtain ⟨t1, t2⟩ := renew_len o r a g
  generalize renewRes o r a g = w at cS cI t1 t2
  generalize renewOk o r a g = b at cS cI
  have enc2 : ∀ (ys : List Fd) , ∀ x ∈ ys.map encF, x.length = 2 := by
    intro ys x hx; obtain ⟨p, _, rfl⟩ := List.mem_map.1 hx; rfl
  have ml : ∀ ys : List Fd, ys.length ≤ 1048576 → (ys.map encF).length ≤ 1000000000 := by intro ys h; rw [List.length_map]; omega
  have cm1 := markObject_c o.key o.r.bd o.r.st o.asked o.got o.ep (o.fs.map encF) (o.r.fs.map encF) 1 (ml _ s1) (ml _ s3) (by decide) (by decide) (enc2 _) (enc2 _)
  simp only [List.length_map] at cm1
  obtain ⟨k1, hk1⟩ : ∃ k1 : Int, k1 = 1 + 2 * (o.fs.length : Int) + 2 * (o.r.fs.length : Int) := ⟨_, rfl⟩
  obtain ⟨j1, hj1⟩ : ∃ j1 : Int, j1 = 1 + 2 * (o.fs.length : Int) := ⟨_, rfl⟩
  rw [← hk1, ← hj1] at cm1
  have cm2 := markResponse_c r.st r.bd (r.fs.map encF) k1 (ml _ s6) (by omega) (by omega) (enc2 _)
  simp only [List.length_map] at cm2
  obtain ⟨k2, hk2⟩ : ∃ k2 : Int, k2 = k1 + 2 * (r.fs.length : Int) := ⟨_, rfl⟩
  rw [← hk2] at cm2
  have nk2 : ¬ k2 < 0 := by omega
  have cm3 := markObject_c w.key w.r.bd w.r.st w.asked w.got w.ep (w.fs.map encF) (w.r.fs.map encF) 1 (ml _ (by omega)) (ml _ (by omega)) (by decide) (by decide) (enc2 _) (enc2 _)
  have ch := heldObject_c w.key w.r.bd w.r.st w.asked w.got w.ep w.fs.length w.r.fs.length 1 (by omega) (by omega) (by decide) (by decide)
  simp only [List.length_map] at cm3
  obtain ⟨k3, hk3⟩ : ∃ k3 : Int, k3 = 1 + 2 * (w.fs.length : Int) + 2 * (w.r.fs.length : Int) := ⟨_, rfl⟩
  obtain ⟨j3, hj3⟩ : ∃ j3 : Int, j3 = 1 + 2 * (w.fs.length : Int) := ⟨_, rfl⟩
  rw [← hk3, ← hj3] at cm3 ch
  have nk3 : ¬ k3 < 0 := by omega
  have w1 : w.fs.length ≤ 2097152 := by omega
  have w2 : w.r.fs.length ≤ 2097152 := by omega
  have o1 : o.fs.length ≤ 2097152 := by omega
  have o2 : o.r.fs.length ≤ 2097152 := by omega
  have q1 : r.fs.length ≤ 2097152 := by omega
  clear hk1 hk2 hk3 hj1 hj3
  refine vdraw_cut (τ := ⟨[(2, .val (.int .i64 a)), (3, .val (.int .i64 g)), (4, .ptr 4 0), (5, .ptr 5 0), (10, .ptr 10 0), (11, .val (.bool b))], [(4, [.val (.string o.key), .rd none (.sl true 2 (o.fs.map encF)), .val (.int .i64 o.r.st), .rd none (.sl true 2 (o.r.fs.map encF)), .val (.string o.r.bd), .val (.int .i64 o.asked), .val (.int .i64 o.got), .val (.int .i64 o.ep)]), (5, [.val (.int .i64 r.st), .rd none (.sl true 2 (r.fs.map encF)), .val (.string r.bd)]), (10, [.val (.string w.key), .own 2 (w.fs.map encF), .val (.int .i64 w.r.st), .own 2 (w.r.fs.map encF), .val (.string w.r.bd), .val (.int .i64 w.asked), .val (.int .i64 w.got), .val (.int .i64 w.ep)])]⟩) ?_ ?_
  · refine vdrawF_intro hΘ hB mixed 11 9 rfl rfl rfl rfl ?_
    (conv => whnf)
    refine vcallA_intro0 rfl (toObject_c o o1 o2) (f1 (fa (l1 (fv rfl) (l1 (fr rfl rfl) (l1 (fv rfl) (l1 (fr rfl rfl) (l1 (fv rfl) (l1 (fv rfl) (l1 (fv rfl) (l1 (fv rfl) l0))))))))) f0) ?_
    (conv => whnf)
    refine vcallA_intro0 rfl (toResponse_c r q1) (f1 (fa (l1 (fv rfl) (l1 (fr rfl rfl) (l1 (fv rfl) l0)))) f0) ?_
    (conv => whnf)
    refine vcallA_intro0 rfl cS (f1 (fa (l1 (fv rfl) (l1 (fh rfl rfl rfl) (l1 (fv rfl) (l1 (fh rfl rfl rfl) (l1 (fv rfl) (l1 (fv rfl) (l1 (fv rfl) (l1 (fv rfl) l0))))))))) (f1 (fa (l1 (fv rfl) (l1 (fh rfl rfl rfl) (l1 (fv rfl) l0)))) (f1 (av rfl) (f1 (av rfl) f0)))) ?_
    (conv => whnf)
    refine ⟨rfl, ?_, ?_⟩
    · (conv => whnf)
      exact ⟨⟨.inr rfl, .inr rfl, .inr rfl, .inr rfl, .inr rfl, .inr rfl, trivial⟩, ⟨⟨.inr rfl, .inr rfl, .inr rfl, .inr rfl, .inr rfl, .inr rfl, .inr rfl, .inr rfl, trivial⟩, ⟨.inr rfl, .inr rfl, .inr rfl, trivial⟩, ⟨.inr rfl, .inr rfl, .inr rfl, .inr rfl, .inr rfl, .inr rfl, .inr rfl, .inr rfl, trivial⟩, trivial⟩⟩
    · (conv => whnf)
      exact ⟨⟨.inr rfl, .inr rfl, .inr rfl, .inr rfl, .inr rfl, .inr rfl, trivial⟩, ⟨⟨.inr rfl, .inr rfl, .inr rfl, .inr rfl, .inr rfl, .inr rfl, .inr rfl, .inr rfl, trivial⟩, ⟨.inr rfl, .inr rfl, .inr rfl, trivial⟩, ⟨.inr rfl, .inr rfl, .inr rfl, .inr rfl, .inr rfl, .inr rfl, .inr rfl, .inr rfl, trivial⟩, trivial⟩⟩
  (conv => whnf)
  refine vcallS_intro0 rfl (toObject_c o o1 o2) (f1 (fa (l1 (fv rfl) (l1 (fr rfl rfl) (l1 (fv rfl) (l1 (fr rfl rfl) (l1 (fv rfl) (l1 (fv rfl) (l1 (fv rfl) (l1 (fv rfl) l0))))))))) f0) ?_
  (conv => whnf)
  refine vcallS_intro0 rfl (toResponse_c r q1) (f1 (fa (l1 (fv rfl) (l1 (fr rfl rfl) (l1 (fv rfl) l0)))) f0) ?_
  (conv => whnf)
  refine vcallS_intro0 rfl cI (f1 (fa (l1 (fv rfl) (l1 (fh rfl rfl rfl) (l1 (fv rfl) (l1 (fh rfl rfl rfl) (l1 (fv rfl) (l1 (fv rfl) (l1 (fv rfl) (l1 (fv rfl) l0))))))))) (f1 (fa (l1 (fv rfl) (l1 (fh rfl rfl rfl) (l1 (fv rfl) l0)))) (f1 (av rfl) (f1 (av rfl) f0)))) ?_
  (conv => whnf)
  refine vcallS_intro0 rfl (eqObject_c w w1 w2) (f1 (fa (l1 (fv rfl) (l1 (fh rfl rfl rfl) (l1 (fv rfl) (l1 (fh rfl rfl rfl) (l1 (fv rfl) (l1 (fv rfl) (l1 (fv rfl) (l1 (fv rfl) l0))))))))) (f1 (fa (l1 (fv rfl) (l1 (fh rfl rfl rfl) (l1 (fv rfl) (l1 (fh rfl rfl rfl) (l1 (fv rfl) (l1 (fv rfl) (l1 (fv rfl) (l1 (fv rfl) l0))))))))) f0)) ?_
  (conv => whnf)
  refine brm_ne' (fun h => absurd rfl h) (fun _ => ?_)
  (conv => whnf)
  refine vdrawG_intro hΘ hB mixed 5 rfl rfl ?_
  (conv => whnf)
  refine vcallA_intro0 rfl (toObject_c o o1 o2) (f1 (fa (l1 (fv rfl) (l1 (fr rfl rfl) (l1 (fv rfl) (l1 (fr rfl rfl) (l1 (fv rfl) (l1 (fv rfl) (l1 (fv rfl) (l1 (fv rfl) l0))))))))) f0) ?_
  (conv => whnf)
  refine vcallA_intro0 rfl (eqObject_c o o1 o2) (f1 (fa (l1 (fv rfl) (l1 (fh rfl rfl rfl) (l1 (fv rfl) (l1 (fh rfl rfl rfl) (l1 (fv rfl) (l1 (fv rfl) (l1 (fv rfl) (l1 (fv rfl) l0))))))))) (f1 (fa (l1 (fv rfl) (l1 (fh rfl rfl rfl) (l1 (fv rfl) (l1 (fh rfl rfl rfl) (l1 (fv rfl) (l1 (fv rfl) (l1 (fv rfl) (l1 (fv rfl) l0))))))))) f0)) ?_
  (conv => whnf)
  refine ⟨rfl, ?_⟩
  (conv => whnf)
  refine vdraw_cut (τ := ⟨[(2, .val (.int .i64 a)), (3, .val (.int .i64 g)), (4, .ptr 4 0), (5, .ptr 5 0), (10, .ptr 10 0), (11, .val (.bool b)), (12, .ptr 12 0), (13, .ptr 13 0), (14, .ptr 14 0), (15, .val (.bool b)), (71, .val (.bool false))], [(4, [.val (.string o.key), .rd none (.sl true 2 (o.fs.map encF)), .val (.int .i64 o.r.st), .rd none (.sl true 2 (o.r.fs.map encF)), .val (.string o.r.bd), .val (.int .i64 o.asked), .val (.int .i64 o.got), .val (.int .i64 o.ep)]), (5, [.val (.int .i64 r.st), .rd none (.sl true 2 (r.fs.map encF)), .val (.string r.bd)]), (10, [.val (.string w.key), .own 2 (w.fs.map encF), .val (.int .i64 w.r.st), .own 2 (w.r.fs.map encF), .val (.string w.r.bd), .val (.int .i64 w.asked), .val (.int .i64 w.got), .val (.int .i64 w.ep)]), (12, [.val (.string o.key), .own 2 (o.fs.map encF), .val (.int .i64 o.r.st), .own 2 (o.r.fs.map encF), .val (.string o.r.bd), .val (.int .i64 o.asked), .val (.int .i64 o.got), .val (.int .i64 o.ep)]), (13, [.val (.int .i64 r.st), .own 2 (r.fs.map encF), .val (.string r.bd)]), (14, [.val (.string w.key), .own 2 (w.fs.map encF), .val (.int .i64 w.r.st), .own 2 (w.r.fs.map encF), .val (.string w.r.bd), .val (.int .i64 w.asked), .val (.int .i64 w.got), .val (.int .i64 w.ep)])]⟩) ?_ ?_
  · refine vdrawG_intro hΘ hB mixed 5 rfl rfl ?_
    (conv => whnf)
    refine vcallA_intro0 rfl (toResponse_c r q1) (f1 (fa (l1 (fv rfl) (l1 (fr rfl rfl) (l1 (fv rfl) l0)))) f0) ?_
    (conv => whnf)
    refine vcallA_intro0 rfl (eqResponse_c r q1) (f1 (fa (l1 (fv rfl) (l1 (fh rfl rfl rfl) (l1 (fv rfl) l0)))) (f1 (fa (l1 (fv rfl) (l1 (fh rfl rfl rfl) (l1 (fv rfl) l0)))) f0)) ?_
    (conv => whnf)
    refine ⟨rfl, ?_⟩
    (conv => whnf)
    exact ⟨⟨.inr rfl, .inr rfl, .inr rfl, .inr rfl, .inr rfl, .inr rfl, .inr rfl, .inr rfl, .inr rfl, .inr rfl, .inr rfl, trivial⟩, ⟨⟨.inr rfl, .inr rfl, .inr rfl, .inr rfl, .inr rfl, .inr rfl, .inr rfl, .inr rfl, trivial⟩, ⟨.inr rfl, .inr rfl, .inr rfl, trivial⟩, ⟨.inr rfl, .inr rfl, .inr rfl, .inr rfl, .inr rfl, .inr rfl, .inr rfl, .inr rfl, trivial⟩, ⟨.inr rfl, .inr rfl, .inr rfl, .inr rfl, .inr rfl, .inr rfl, .inr rfl, .inr rfl, trivial⟩, ⟨.inr rfl, .inr rfl, .inr rfl, trivial⟩, ⟨.inr rfl, .inr rfl, .inr rfl, .inr rfl, .inr rfl, .inr rfl, .inr rfl, .inr rfl, trivial⟩, trivial⟩⟩
  (conv => whnf)
  refine vcallS_introM (pb := []) rfl cm1 ⟨⟨⟨rfl, fv rfl, rfl⟩, ⟨rfl, rfl⟩, ⟨rfl, fv rfl, rfl⟩, ⟨rfl, rfl⟩, ⟨rfl, fv rfl, rfl⟩, ⟨rfl, fv rfl, rfl⟩, ⟨rfl, fv rfl, rfl⟩, ⟨rfl, fv rfl, rfl⟩, trivial⟩, ⟨rfl, av rfl, rfl⟩, trivial⟩ trivial rfl ?_
  (conv => whnf)
  refine vcallS_introM (pb := []) rfl cm2 ⟨⟨⟨rfl, fv rfl, rfl⟩, ⟨rfl, rfl⟩, ⟨rfl, fv rfl, rfl⟩, trivial⟩, ⟨rfl, av rfl, rfl⟩, trivial⟩ trivial rfl ?_
  (conv => whnf)
  refine brm_p (fun h => (nk2 h).elim) (fun _ => ?_)
  (conv => whnf)
  refine vcallS_intro0 rfl (eqObject_c w w1 w2) (f1 (fa (l1 (fv rfl) (l1 (fh rfl rfl rfl) (l1 (fv rfl) (l1 (fh rfl rfl rfl) (l1 (fv rfl) (l1 (fv rfl) (l1 (fv rfl) (l1 (fv rfl) l0))))))))) (f1 (fa (l1 (fv rfl) (l1 (fh rfl rfl rfl) (l1 (fv rfl) (l1 (fh rfl rfl rfl) (l1 (fv rfl) (l1 (fv rfl) (l1 (fv rfl) (l1 (fv rfl) l0))))))))) f0)) ?_
  (conv => whnf)
  refine brm_ne' (fun h => absurd rfl h) (fun _ => ?_)
  (conv => whnf)
  refine vcallS_introM (pb := []) rfl cm3 ⟨⟨⟨rfl, fv rfl, rfl⟩, ⟨rfl, rfl⟩, ⟨rfl, fv rfl, rfl⟩, ⟨rfl, rfl⟩, ⟨rfl, fv rfl, rfl⟩, ⟨rfl, fv rfl, rfl⟩, ⟨rfl, fv rfl, rfl⟩, ⟨rfl, fv rfl, rfl⟩, trivial⟩, ⟨rfl, av rfl, rfl⟩, trivial⟩ trivial rfl ?_
  (conv => whnf)
  refine vcallS_intro0 rfl ch (f1 (fa (l1 (fv rfl) (l1 (fh rfl rfl rfl) (l1 (fv rfl) (l1 (fh rfl rfl rfl) (l1 (fv rfl) (l1 (fv rfl) (l1 (fv rfl) (l1 (fv rfl) l0))))))))) (f1 (av rfl) f0)) ?_
  (conv => whnf)
  refine brm_p (fun h => (nk3 h).elim) (fun _ => ?_)
  (conv => whnf)
  refine brm_ne (fun h => absurd rfl h) (fun _ => ?_)
  (conv => whnf)
  refine vdraw_cut (τ := ⟨[(10, .ptr 10 0), (11, .val (.bool b)), (14, .ptr 14 0), (17, .val (.int .i64 k3)), (19, .ptr 19 0), (20, .val (.bool b))], [(10, [.val (.string w.key), .own 2 (w.fs.map encF), .val (.int .i64 w.r.st), .own 2 (w.r.fs.map encF), .val (.string w.r.bd), .val (.int .i64 w.asked), .val (.int .i64 w.got), .val (.int .i64 w.ep)]), (14, [.val (.string w.key), .own 2 (encM 1 w.fs.length), .val (.int .i64 w.r.st), .own 2 (encM j3 w.r.fs.length), .val (.string w.r.bd), .val (.int .i64 w.asked), .val (.int .i64 w.got), .val (.int .i64 w.ep)]), (19, [.val (.string w.key), .own 2 (w.fs.map encF), .val (.int .i64 w.r.st), .own 2 (w.r.fs.map encF), .val (.string w.r.bd), .val (.int .i64 w.asked), .val (.int .i64 w.got), .val (.int .i64 w.ep)])]⟩) ?_ ?_
  · refine vdrawF_intro hΘ hB mixed 11 9 rfl rfl rfl rfl ?_
    (conv => whnf)
    refine vcallA_intro0 rfl (toObject_c o o1 o2) (f1 (fa (l1 (fv rfl) (l1 (fr rfl rfl) (l1 (fv rfl) (l1 (fr rfl rfl) (l1 (fv rfl) (l1 (fv rfl) (l1 (fv rfl) (l1 (fv rfl) l0))))))))) f0) ?_
    (conv => whnf)
    refine vcallA_intro0 rfl (toResponse_c r q1) (f1 (fa (l1 (fv rfl) (l1 (fr rfl rfl) (l1 (fv rfl) l0)))) f0) ?_
    (conv => whnf)
    refine vcallA_intro0 rfl cI (f1 (fa (l1 (fv rfl) (l1 (fh rfl rfl rfl) (l1 (fv rfl) (l1 (fh rfl rfl rfl) (l1 (fv rfl) (l1 (fv rfl) (l1 (fv rfl) (l1 (fv rfl) l0))))))))) (f1 (fa (l1 (fv rfl) (l1 (fh rfl rfl rfl) (l1 (fv rfl) l0)))) (f1 (av rfl) (f1 (av rfl) f0)))) ?_
    (conv => whnf)
    refine ⟨rfl, ?_, ?_⟩
    · (conv => whnf)
      exact ⟨⟨.inr rfl, .inr rfl, .inr rfl, .inr rfl, .inr rfl, .inr rfl, trivial⟩, ⟨⟨.inr rfl, .inr rfl, .inr rfl, .inr rfl, .inr rfl, .inr rfl, .inr rfl, .inr rfl, trivial⟩, ⟨.inr rfl, .inr rfl, .inr rfl, .inr rfl, .inr rfl, .inr rfl, .inr rfl, .inr rfl, trivial⟩, ⟨.inr rfl, .inr rfl, .inr rfl, .inr rfl, .inr rfl, .inr rfl, .inr rfl, .inr rfl, trivial⟩, trivial⟩⟩
    · (conv => whnf)
      exact ⟨⟨.inr rfl, .inr rfl, .inr rfl, .inr rfl, .inr rfl, .inr rfl, trivial⟩, ⟨⟨.inr rfl, .inr rfl, .inr rfl, .inr rfl, .inr rfl, .inr rfl, .inr rfl, .inr rfl, trivial⟩, ⟨.inr rfl, .inr rfl, .inr rfl, .inr rfl, .inr rfl, .inr rfl, .inr rfl, .inr rfl, trivial⟩, ⟨.inr rfl, .inr rfl, .inr rfl, .inr rfl, .inr rfl, .inr rfl, .inr rfl, .inr rfl, trivial⟩, trivial⟩⟩
  (conv => whnf)
  refine vcallS_intro0 rfl (eqObject_c w w1 w2) (f1 (fa (l1 (fv rfl) (l1 (fh rfl rfl rfl) (l1 (fv rfl) (l1 (fh rfl rfl rfl) (l1 (fv rfl) (l1 (fv rfl) (l1 (fv rfl) (l1 (fv rfl) l0))))))))) (f1 (fa (l1 (fv rfl) (l1 (fh rfl rfl rfl) (l1 (fv rfl) (l1 (fh rfl rfl rfl) (l1 (fv rfl) (l1 (fv rfl) (l1 (fv rfl) (l1 (fv rfl) l0))))))))) f0)) ?_
  (conv => whnf)
  refine brm_ne' (fun h => absurd rfl h) (fun _ => ?_)
  (conv => whnf)
  refine vcallS_intro0 rfl ch (f1 (fa (l1 (fv rfl) (l1 (fh rfl rfl rfl) (l1 (fv rfl) (l1 (fh rfl rfl rfl) (l1 (fv rfl) (l1 (fv rfl) (l1 (fv rfl) (l1 (fv rfl) l0))))))))) (f1 (av rfl) f0)) ?_
  (conv => whnf)
  refine brm_p (fun h => (nk3 h).elim) (fun _ => ?_)
  (conv => whnf)
  refine brm_ne (fun h => absurd rfl h) (fun _ => ?_)
  (conv => whnf)
  exact vfin_bool rfl
end Go.Proofs.YteihhmonnbeekaaDoor
