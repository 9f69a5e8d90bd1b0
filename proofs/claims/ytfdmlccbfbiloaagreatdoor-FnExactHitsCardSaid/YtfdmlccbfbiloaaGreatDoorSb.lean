import Derived.Test.YtfdmlccbfbiloaaGreatDoorSa
namespace Go.Proofs.YtfdmlccbfbiloaaGreatDoor
open Go Go.Proofs.YtfdmlccbfbiloaaGreatDoor.Vs
variable [Gl]
set_option linter.unusedSectionVars false

set_option maxRecDepth 100000 in
theorem hitsI_c (p : Prg) (o : Obj) (ho : o.ok) (hg : fieldsOk o.r.fs = true) (hJ : (Lib.join (hitsOf tagN o.r.fs) comma).length ≤ 140737488355328) : VC Tryz.prog 52 [p.vs, o.rd] (.val (.bool (p.hits o))) := by
  refine VC.intro hΘ Tryz.func52 rfl rfl Tryz.ntmps52 rfl rfl rfl fun B hB => ?_
  (conv => whnf)
  refine brm_eq (fun h1 => ?_) (fun h1 => ?_) <;> (conv => whnf)
  · exact vfin_bool (by rw [Prg.hits, if_pos h1])
  refine brm_eq (fun h2 => ?_) (fun h2 => ?_) <;> (conv => whnf)
  · have c1 := getI_c o.r.fs tagN ho.2.2.1.2 (by decide) hg
    have hT : p.hits o = (itemsB (Lib.join (hitsOf tagN o.r.fs) comma)).any fun n => sb p.t == sb n := by
      rw [Prg.hits, if_neg h1, if_pos h2]
      congr 1
      funext n
      rw [Bool.eq_iff_iff]; simp only [beq_iff_eq]; exact eq_comm
    rw [hT]
    unfold getV at c1
    generalize decide (hitsOf tagN o.r.fs ≠ []) = b0 at c1
    generalize Lib.join (hitsOf tagN o.r.fs) comma = J at c1 hJ ⊢
    refine vcallS_intro0 rfl c1 (f1 (ar rfl rfl) (f1 (av rfl) f0)) ?_
    (conv => whnf)
    have c2 := itemsI_c (bs J) (by rw [sb_bs]; exact hJ)
    rw [sb_bs] at c2
    have hcnt := itemsB_cnt J
    generalize itemsB J = L at hcnt c2 ⊢
    refine vdrawG_intro hΘ hB mixed 5 rfl rfl ?_
    (conv => whnf)
    refine vcallA_intro0 rfl c2 (f1 (av rfl) f0) ?_
    (conv => whnf)
    refine vcallA_intro0 rfl (containsStr_c p.t L (by omega)) (f1 (ah rfl rfl rfl) (f1 (av rfl) f0)) ?_
    (conv => whnf)
    refine ⟨rfl, ?_⟩
    (conv => whnf)
    exact vfin_bool rfl
  refine brm_eq (fun h3 => ?_) (fun h3 => ?_) <;> (conv => whnf)
  · refine vcallS_intro0 rfl (hasPrefix_c o.key p.t) (f1 (av rfl) (f1 (av rfl) f0)) ?_
    (conv => whnf)
    exact vfin_bool (by rw [Prg.hits, if_neg h1, if_neg h2, if_pos h3])
  · exact vfin_bool (by rw [Prg.hits, if_neg h1, if_neg h2, if_neg h3])

/-! #### both -/
def hitsAll (p : Prg) (o : Obj) : Bool := (p.good && o.good) && p.hits o
theorem tagJoin_len {xs : List Fd} (h : fieldsOk xs = true) : (Lib.join (hitsOf tagN xs) comma).length ≤ 140737488355328 := by
  refine Nat.le_trans (join_len (hits_short h)) ?_
  have h1 := fieldsOk_len h
  have h2 := hitsB_len tagN xs
  rw [← hitsB_of, List.length_map]
  omega
theorem hitsIm_c (p : Prg) (o : Obj) (hp : (sb p.t).length ≤ 140737488355328) (ho : o.ok) : VC Tryz.prog 16 [p.vs, o.rd] (.val (.bool (hitsAll p o))) := by
  refine VC.intro hΘ Tryz.func16 rfl rfl Tryz.ntmps16 rfl rfl rfl fun B hB => ?_
  (conv => whnf)
  refine call_bb rfl (purgeOkI_c p hp) (f1 (fa (l1 (fv rfl) (l1 (fv rfl) l0))) f0) (fun h1 => ?_) (fun h1 => ?_) <;> (conv => whnf)
  rotate_left
  · exact vfin_bool (by rw [hitsAll, h1]; rfl)
  refine call_bb rfl (objectOkI_c o ho) (f1 (fa (l1 (fv rfl) (l1 (fr rfl rfl) (l1 (fv rfl) (l1 (fr rfl rfl) (l1 (fv rfl) (l1 (fv rfl) (l1 (fv rfl) (l1 (fv rfl) l0))))))))) f0) (fun h2 => ?_) (fun h2 => ?_) <;> (conv => whnf)
  rotate_left
  · exact vfin_bool (by rw [hitsAll, h1, h2]; rfl)
  have hg := (good_fs h2).2
  refine vcallS_intro0 rfl (hitsI_c p o ho hg (tagJoin_len hg)) (f1 (fa (l1 (fv rfl) (l1 (fv rfl) l0))) (f1 (fa (l1 (fv rfl) (l1 (fr rfl rfl) (l1 (fv rfl) (l1 (fr rfl rfl) (l1 (fv rfl) (l1 (fv rfl) (l1 (fv rfl) (l1 (fv rfl) l0))))))))) f0)) ?_
  (conv => whnf)
  exact vfin_bool (by rw [hitsAll, h1, h2]; rfl)
theorem hitsSp_c (p : Prg) (o : Obj) (m : Nat) (hp : (sb p.t).length ≤ 140737488355328) (ho : o.ok) (hv : ∀ x ∈ o.r.fs, (sb x.2).length ≤ m) (hl : o.r.fs.length * (m + 2) ≤ 4222124650659900) : VC Tryz.prog 13 [p.vs, o.rd] (.val (.bool (hitsAll p o))) := by
  refine VC.intro hΘ Tryz.func13 rfl rfl Tryz.ntmps13 rfl rfl rfl fun B hB => ?_
  (conv => whnf)
  refine call_bb rfl (purgeOkS_c p hp) (f1 (fa (l1 (fv rfl) (l1 (fv rfl) l0))) f0) (fun h1 => ?_) (fun h1 => ?_) <;> (conv => whnf)
  rotate_left
  · exact vfin_bool (by rw [hitsAll, h1]; rfl)
  refine call_bb rfl (objectOkS_c o m ho hv hl) (f1 (fa (l1 (fv rfl) (l1 (fr rfl rfl) (l1 (fv rfl) (l1 (fr rfl rfl) (l1 (fv rfl) (l1 (fv rfl) (l1 (fv rfl) (l1 (fv rfl) l0))))))))) f0) (fun h2 => ?_) (fun h2 => ?_) <;> (conv => whnf)
  rotate_left
  · exact vfin_bool (by rw [hitsAll, h1, h2]; rfl)
  have hg := (good_fs h2).2
  refine vcallS_intro0 rfl (l15Hits_c p o hp ho hg (tagJoin_len hg)) (f1 (fa (l1 (fv rfl) (l1 (fv rfl) l0))) (f1 (fa (l1 (fv rfl) (l1 (fr rfl rfl) (l1 (fv rfl) (l1 (fr rfl rfl) (l1 (fv rfl) (l1 (fv rfl) (l1 (fv rfl) (l1 (fv rfl) l0))))))))) f0)) ?_
  (conv => whnf)
  exact vfin_bool (by rw [hitsAll, h1, h2]; rfl)

/-! #### the law's own -/
theorem szPurge_c (p : Prg) (l : Int) (h1 : 0 ≤ l) (h2 : l ≤ 1048576) (hp : (sb p.t).length ≤ 140737488355328) : VC Tryz.prog 11 [p.vs, .val (.int .i64 l)] (.val (.int .i64 (if l - (sb p.t).length < 0 then -1 else l - (sb p.t).length))) := by
  refine VC.intro hΘ Tryz.func11 rfl rfl Tryz.ntmps11 rfl rfl rfl fun B hB => ?_
  (conv => whnf)
  have hw : IntKind.i64.wrap (l - (sb p.t).length) = l - (sb p.t).length := wrap_i64 (by omega) (by omega)
  rw [hw]
  refine brm_p (fun h => ?_) (fun h => ?_) <;> (conv => whnf)
  · exact vfin_int (by rw [if_pos h])
  · exact vfin_int (by rw [if_neg h])
theorem toPurge_c (p : Prg) : VC Tryz.prog 14 [p.vs] p.vs := by
  refine VC.intro hΘ Tryz.func14 rfl rfl Tryz.ntmps14 rfl rfl rfl fun B hB => ?_
  (conv => whnf)
  exact vfin_agg rfl
end Go.Proofs.YtfdmlccbfbiloaaGreatDoor
namespace Go.Proofs.YtfdmlccbfbiloaaGreatDoor
open Go Go.Proofs.YtfdmlccbfbiloaaGreatDoor.Vs
variable [Gl]
set_option linter.unusedSectionVars false

set_option maxRecDepth 100000 in
theorem hits_law (p : Prg) (o : Obj) (hp : (sb p.t).length ≤ 140737488355328) (ho : o.ok) : VC Tryz.prog 3 [p.vs, o.rd] (.val (.bool true)) := by
  refine VC.intro hΘ Tryz.func3 rfl rfl Tryz.ntmps3 rfl rfl rfl fun B hB => ?_
  (conv => whnf)
  refine call_i rfl (szPurge_c p 1048576 (by decide) (by decide) hp) (f1 (fa (l1 (fv rfl) (l1 (fv rfl) l0))) (f1 (av rfl) f0)) fun z hz => ?_
  (conv => whnf)
  refine brm_p (fun h => ?_) (fun h => ?_) <;> (conv => whnf)
  · exact vfin_bool rfl
  have hz2 : z ≤ 1048576 := by rw [hz]; split <;> omega
  clear hz
  refine call_i (x := szO z o) rfl (szObject_c o z (by omega) hz2 ho) (f1 (fa (l1 (fv rfl) (l1 (fr rfl rfl) (l1 (fv rfl) (l1 (fr rfl rfl) (l1 (fv rfl) (l1 (fv rfl) (l1 (fv rfl) (l1 (fv rfl) l0))))))))) (f1 (av rfl) f0)) fun l hl => ?_
  (conv => whnf)
  refine brm_p (fun h' => ?_) (fun h' => ?_) <;> (conv => whnf)
  · exact vfin_bool rfl
  rw [hl] at h'
  obtain ⟨⟨s1, s2⟩, ⟨s3, s4⟩, _⟩ := szO_small hz2 h'
  clear hl h'
  have cS := hitsSp_c p o 1048576 hp ho s4 (by omega)
  have cI := hitsIm_c p o hp ho
  generalize hitsAll p o = b at cS cI
  have o1 : o.fs.length ≤ 2097152 := by omega
  have o2 : o.r.fs.length ≤ 2097152 := by omega
  refine vdrawG_intro hΘ hB mixed 5 rfl rfl ?_
  (conv => whnf)
  refine vcallA_intro0 rfl (toPurge_c p) (f1 (fa (l1 (fv rfl) (l1 (fv rfl) l0))) f0) ?_
  (conv => whnf)
  refine vcallA_intro0 rfl (toObject_c o o1 o2) (f1 (fa (l1 (fv rfl) (l1 (fr rfl rfl) (l1 (fv rfl) (l1 (fr rfl rfl) (l1 (fv rfl) (l1 (fv rfl) (l1 (fv rfl) (l1 (fv rfl) l0))))))))) f0) ?_
  (conv => whnf)
  refine vcallA_intro0 rfl cS (f1 (fa (l1 (fv rfl) (l1 (fv rfl) l0))) (f1 (fa (l1 (fv rfl) (l1 (fh rfl rfl rfl) (l1 (fv rfl) (l1 (fh rfl rfl rfl) (l1 (fv rfl) (l1 (fv rfl) (l1 (fv rfl) (l1 (fv rfl) l0))))))))) f0)) ?_
  (conv => whnf)
  refine ⟨rfl, ?_⟩
  (conv => whnf)
  refine vcallS_intro0 rfl (toObject_c o o1 o2) (f1 (fa (l1 (fv rfl) (l1 (fr rfl rfl) (l1 (fv rfl) (l1 (fr rfl rfl) (l1 (fv rfl) (l1 (fv rfl) (l1 (fv rfl) (l1 (fv rfl) l0))))))))) f0) ?_
  (conv => whnf)
  refine vdrawG_intro hΘ hB mixed 4 rfl rfl ?_
  (conv => whnf)
  refine vcallA_intro0 rfl (toPurge_c p) (f1 (fa (l1 (fv rfl) (l1 (fv rfl) l0))) f0) ?_
  (conv => whnf)
  refine vcallA_intro0 rfl cI (f1 (fa (l1 (fv rfl) (l1 (fv rfl) l0))) (f1 (fa (l1 (fv rfl) (l1 (fh rfl rfl rfl) (l1 (fv rfl) (l1 (fh rfl rfl rfl) (l1 (fv rfl) (l1 (fv rfl) (l1 (fv rfl) (l1 (fv rfl) l0))))))))) f0)) ?_
  (conv => whnf)
  refine ⟨rfl, ?_⟩
  (conv => whnf)
  refine brm_ne (fun h => absurd rfl h) (fun _ => ?_)
  (conv => whnf)
  refine vdrawG_intro hΘ hB mixed 5 rfl rfl ?_
  (conv => whnf)
  refine vcallA_intro0 rfl (toObject_c o o1 o2) (f1 (fa (l1 (fv rfl) (l1 (fr rfl rfl) (l1 (fv rfl) (l1 (fr rfl rfl) (l1 (fv rfl) (l1 (fv rfl) (l1 (fv rfl) (l1 (fv rfl) l0))))))))) f0) ?_
  (conv => whnf)
  refine vcallA_intro0 rfl (eqObject_c o o1 o2) (f1 (fa (l1 (fv rfl) (l1 (fh rfl rfl rfl) (l1 (fv rfl) (l1 (fh rfl rfl rfl) (l1 (fv rfl) (l1 (fv rfl) (l1 (fv rfl) (l1 (fv rfl) l0))))))))) (f1 (fa (l1 (fv rfl) (l1 (fh rfl rfl rfl) (l1 (fv rfl) (l1 (fh rfl rfl rfl) (l1 (fv rfl) (l1 (fv rfl) (l1 (fv rfl) (l1 (fv rfl) l0))))))))) f0)) ?_
  (conv => whnf)
  refine ⟨rfl, ?_⟩
  (conv => whnf)
  exact vfin_bool rfl
end Go.Proofs.YtfdmlccbfbiloaaGreatDoor
