import Derived.Test.YtfdmlccbfbiloaaGreatDoorVa
import Derived.Laws.Append
import Derived.Laws.AppendOwn
import Derived.Laws.OwnMore
/- The calculus: stores into boxes; new boxes. -/
namespace Go.Proofs.YtfdmlccbfbiloaaGreatDoor.Vs
open Go
variable [Gl]
set_option linter.unusedSectionVars false
def vsing : V → List V
  | .agg vs => vs
  | v => [v]
def isAggV : V → Bool
  | .agg _ => true
  | _ => false
def live : V → Bool
  | .dead | .agg _ | .tup _ => false
  | _ => true
def inRg (b off n : Nat) : Pl → Bool
  | .bx b' j => Nat.beq b b' && (Nat.ble off j && Nat.blt j (off + n))
  | _ => false
def kfMv (mp : List (Pl × Pl)) (f : Pl → Bool) : KF := ⟨fun q => isIn q mp || f q, fun q => isIn q mp || f q, noB⟩
def splV (cs : List V) (off : Nat) (vs : List V) : List V := cs.take off ++ vs ++ cs.drop (off + vs.length)
theorem splV_len {cs vs : List V} {off : Nat} (h : off + vs.length ≤ cs.length) : (splV cs off vs).length = cs.length := by simp [splV]; omega
theorem splV_get {cs vs : List V} {off j : Nat} {v : V} (h : off + vs.length ≤ cs.length) (hv : (splV cs off vs)[j]? = some v) :
    (off ≤ j ∧ j < off + vs.length ∧ vs[j - off]? = some v) ∨ ((j < off ∨ off + vs.length ≤ j) ∧ cs[j]? = some v) := by
  unfold splV at hv
  rcases Nat.lt_or_ge j off with hj | hj
  · rw [List.append_assoc, List.getElem?_append_left (by simp; omega), List.getElem?_take, if_pos hj] at hv
    exact .inr ⟨.inl hj, hv⟩
  · rcases Nat.lt_or_ge j (off + vs.length) with hj' | hj'
    · rw [List.append_assoc, List.getElem?_append_right (by simp; omega), List.getElem?_append_left (by simp; omega)] at hv
      refine .inl ⟨hj, hj', ?_⟩
      rw [← hv]; congr 1; simp; omega
    · rw [List.getElem?_append_right (by simp; omega), List.getElem?_drop] at hv
      refine .inr ⟨.inr hj', ?_⟩
      rw [← hv]; congr 1; simp; omega

def vstoreB (ti : TI) (σ : St) (b off : Nat) (v : V) (K : St → Prop) : Prop :=
  bif Bool.xor ti.k.agg (isAggV v) then False else
  bif Nat.beq (vsing v).length ti.sz && (Nat.blt 0 ti.sz && (vsing v).all live) then
    (match absorb σ (.bx b) off (vsing v) with
    | none => False
    | some (vs', mp) =>
      bif cleanL (kfMv mp (inRg b off ti.sz)) vs' then vforget σ (kfMv mp (inRg b off ti.sz)) fun σ' => (match σ'.box b with
        | some cs => bif Nat.ble (off + ti.sz) cs.length then fcVs (splV cs off vs') fun l => (match σ' with | ⟨s, bb⟩ => K ⟨s, (b, l) :: bb⟩) else False
        | none => False)
      else False)
  else False

section ops
variable {P : Program} {B : Bs} {g : Gh} {σ : St} {a : Act} {w : World} {o : Oper} {d : Nat} {K : V → St → Prop} {Θ : Nat → Option TI}

theorem RC.oneCell {q : Pl} {v : V} {u : Value} (h : live v = true) (r : RC g a w q v u) : u.oneCell' = true := by
  cases v <;> simp only [live, reduceCtorEq] at h <;> simp only [RC] at r
  · rw [r.1]; exact r.2
  · exact Rd.one r
  · obtain ⟨A, cap, e, _⟩ := OwP.slice r; rw [e]; rfl
  · obtain ⟨A, cap, e, _⟩ := OwP.slice r.2; rw [e]; rfl
  · obtain ⟨_, A, len, cap, e⟩ := r; rw [e]; rfl
  · obtain ⟨A, len, cap, _, _, e⟩ := r; rw [e]; rfl
  · rw [r]; rfl
  · obtain ⟨b, len, cap, _, _, e⟩ := r; rw [e]; rfl
  · obtain ⟨x, arr, e, fr, h1, _⟩ := r; rw [h1]; rfl
  · obtain ⟨us, h1, _⟩ := r; rw [h1]; rfl
  · exact Rd.one r.1

/-- a slot's value as cells -/
theorem RT.sing {k : Nat} {v : V} {u : Value} (r : RT g a w k v u) (hv : (vsing v).all live = true) :
    ∃ us : List Value, us.length = (vsing v).length ∧ u.cells.toList = us ∧ (isAggV v = true ↔ ∃ z, u = .agg z) ∧ ∀ (i : Nat) v' u', (vsing v)[i]? = some v' → us[i]? = some u' → ∃ q, RC g a w q v' u' := by
  cases v with
  | agg vs =>
    simp only [RT, RG] at r
    obtain ⟨us, rfl, h1, h2⟩ := r
    exact ⟨us.toList, by simp [vsing, h1], rfl, by simp [isAggV], fun i v' u' hv' hu' => ⟨_, h2 i v' u' hv' (by simpa using hu')⟩⟩
  | tup vs => simp [vsing, live] at hv
  | dead => simp [vsing, live] at hv
  | _ =>
    simp only [RT, RG] at r
    have h1 := RC.oneCell rfl r
    refine ⟨[u], rfl, (by cases u <;> first | rfl | (cases h1)), ?_, fun i v' u' hv' hu' => ?_⟩
    · simp only [isAggV, Bool.false_eq_true, false_iff]
      rintro ⟨z, rfl⟩; cases h1
    · cases i with
      | zero =>
        simp only [vsing, List.getElem?_cons_zero, Option.some.injEq] at hv' hu'
        subst hv'; subst hu'; exact ⟨_, r⟩
      | succ i => simp [vsing] at hv'

theorem cleanL_get {κ : KF} : ∀ {vs : List V}, cleanL κ vs = true → ∀ (i : Nat) v, vs[i]? = some v → v.hps.any κ.h = false ∧ v.cps.any κ.c = false ∧ v.bxs1.any κ.b = false
  | [], _, i, v, hv => by simp at hv
  | x :: r, h, i, v, hv => by
    simp only [cleanL, Bool.and_eq_true, Bool.not_eq_true', Bool.or_eq_false_iff] at h
    cases i with
    | zero => simp only [List.getElem?_cons_zero, Option.some.injEq] at hv; subst hv; exact ⟨h.1.1.1, h.1.1.2, h.1.2⟩
    | succ i => exact cleanL_get h.2 i v (by simpa using hv)

theorem lean_free {κ : KF} {q : Pl} {v : V} (hf : v.free1 = true) (h : v.hps.any κ.h = false ∧ v.cps.any κ.c = false ∧ v.bxs1.any κ.b = false) : v.kill1 κ q = v := by
  have : isOwn v = false := by cases v <;> first | rfl | cases hf
  simp [V.kill1, V.lean1, this, h.1, h.2.1, h.2.2]

/-- values on their way to new places stand there -/
theorem moved {mp : List (Pl × Pl)} {κ : KF} {m : Nat → Bool} {g' : Gh} {a' : Act} {w' : World} {p : Nat → Pl} {j : Nat} {vs : List V} {us : List Value} (T : Turns κ m g a w g' a' w') (hc : cleanL κ vs = true)
    (hw : ∀ b q, (w.heap[b]?).isSome = true → g.ow b = .pl q → g'.ow b = .pl (mlk mp q) ∧ w'.heap[b]? = w.heap[b]?) (hwi : ∀ b, (w.heap[b]?).isSome = true → g.ow b = .imm → g'.ow b = .imm ∧ w'.heap[b]? = w.heap[b]?)
    (h : ∀ (i : Nat) v u, vs[i]? = some v → us[i]? = some u → (v.free1 = true ∧ (∀ q, RC g a w q v u)) ∨ ∃ q, isOwn v = true ∧ RC g a w q v u ∧ isIn q mp = true ∧ mlk mp q = p (j + i)) :
    ∀ (i : Nat) v u, vs[i]? = some v → us[i]? = some u → RC g' a' w' (p (j + i)) v u := by
  intro i v u hv hu
  rcases h i v u hv hu with ⟨hf, hq⟩ | ⟨q, h0, h1, h2, h3⟩
  · have := RC.kill T (hq (p (j + i)))
    rwa [lean_free hf (cleanL_get hc i v hv)] at this
  · refine RC.ownMap h0 h1 fun s xs h1 => ?_
    obtain ⟨fp1, z1, z2, z3⟩ := h1
    have hex := Ow.exists_ _ _ _ z1
    have hm : Ow (fun b => g'.ow b = .imm) w' (.sl true s xs) u fp1 :=
      Ow.mono (fun b hb hx => hwi b hx hb) _ _ fp1 (fun b hb => (hw b q (hex b hb) (z3 b hb)).2) z1
    exact ⟨fp1, hm, z2, fun b hb => by rw [(hw b q (hex b hb) (z3 b hb)).1, h3]⟩

theorem vstoreB_sound (hΘ : ThOk P Θ) {t : TypeId} {ti : TI} (hti : Θ t = some ti) {b off : Nat} {v : V} {u : Value} {k : Nat} {K : St → Prop} (h : vstoreB ti σ b off v K) (r : RS B g σ a w) (hv : RT g a w k v u) :
    ∃ w' g' σ', (storeVar t ⟨(g.ad b).1, (g.ad b).2 + off, none⟩ u).run P w = .ok () w' ∧ K σ' ∧ RS B g' σ' a w' := by
  unfold vstoreB at h
  cases hx : Bool.xor ti.k.agg (isAggV v) with
  | true => simp only [hx, cond_true] at h
  | false =>
    simp only [hx, cond_false] at h
    cases hc : Nat.beq (vsing v).length ti.sz && (Nat.blt 0 ti.sz && (vsing v).all live) with
    | false => simp only [hc, cond_false] at h
    | true =>
      simp only [hc, cond_true] at h
      simp only [Bool.and_eq_true] at hc
      obtain ⟨hc1, hc2, hc3⟩ := hc
      have hn : (vsing v).length = ti.sz := Nat.eq_of_beq_eq_true hc1
      have hpos : 1 ≤ ti.sz := by simpa [Nat.blt] using hc2
      obtain ⟨us, hus, hcells, hagg, hrc⟩ := hv.sing hc3
      cases hab : absorb σ (.bx b) off (vsing v) with
      | none => simp only [hab] at h
      | some x =>
        obtain ⟨vs', mp⟩ := x
        simp only [hab] at h
        obtain ⟨hl', hget⟩ := absorb_sound r (.bx b) (vsing v) us off vs' mp hab hus hrc
        cases hcl : cleanL (kfMv mp (inRg b off ti.sz)) vs' with
        | false => simp only [hcl, cond_false] at h
        | true =>
          simp only [hcl, cond_true] at h
          have h := vforget_eq h
          cases hbx : (σ.kill (kfMv mp (inRg b off ti.sz))).box b with
          | none => simp only [hbx] at h
          | some cs =>
            simp only [hbx] at h
            cases hle : Nat.ble (off + ti.sz) cs.length with
            | false => simp only [hle, cond_false] at h
            | true =>
              simp only [hle, cond_true] at h
              have h := fcVs_eq h
              have hle' : off + ti.sz ≤ cs.length := Nat.le_of_ble_eq_true hle
              obtain ⟨hkb, cs0, hcs0, hcs⟩ := killB_get _ σ.b b cs hbx
              have hb0 : σ.box b = some cs0 := hcs0
              obtain ⟨h1, arr, e, fr, h2, h3⟩ := r.2.2.2.2 b cs0 hb0
              have hlen0 : cs.length = cs0.length := by rw [hcs, killL_len]
              have hbound : (g.ad b).2 + off + us.length ≤ arr.size := by
                have : ∃ v, cs0[off + ti.sz - 1]? = some v := ⟨_, List.getElem?_eq_getElem (by omega)⟩
                obtain ⟨v9, hv9⟩ := this
                obtain ⟨_, u9, h4, _⟩ := h3 _ v9 hv9
                have := (Array.getElem?_eq_some_iff.1 h4).1
                omega
              have hone : ∀ x ∈ us, x.oneCell' = true := by
                intro x hx
                obtain ⟨i, hi, rfl⟩ := List.getElem_of_mem hx
                have hi' : i < (vsing v).length := by omega
                obtain ⟨q, hq⟩ := hrc i (vsing v)[i] us[i] (List.getElem?_eq_getElem hi') (List.getElem?_eq_getElem hi)
                exact RC.oneCell (by rw [List.all_eq_true] at hc3; exact hc3 _ (List.getElem_mem hi')) hq
              have hfroz : ∀ j, j < us.length → ¬ (fr.1 ≤ (g.ad b).2 + off + j ∧ (g.ad b).2 + off + j < fr.2) := by
                intro j hj
                have : ∃ v, cs0[off + j]? = some v := ⟨_, List.getElem?_eq_getElem (by omega)⟩
                obtain ⟨v9, hv9⟩ := this
                have := (h3 _ v9 hv9).1
                rwa [← Nat.add_assoc] at this
              have hst := run_storeRow (P := P) h2 us hbound hfroz hone
              have hw1 := setCells_heap (g.ad b).1 us ((g.ad b).2 + off) w arr e fr h2 hbound
              have hw2 := fun k hk => setCells_other (g.ad b).1 us ((g.ad b).2 + off) w k hk
              obtain ⟨hr1, hr2, hr3, hr4⟩ := setCells_rest (g.ad b).1 us ((g.ad b).2 + off) w
              revert hst hw1 hw2 hr1 hr2 hr3 hr4
              generalize w.setCells (g.ad b).1 ((g.ad b).2 + off) us = w'
              intro hst hw1 hw2 hr1 hr2 hr3 hr4
              have hne : ∀ x c, g.ow x = c → c ≠ .bx b → w'.heap[x]? = w.heap[x]? := by
                intro x c hx hc
                refine hw2 x ?_
                rintro rfl
                rw [h1] at hx; exact hc hx.symm
              have T : Turns (kfMv mp (inRg b off ti.sz)) (Nat.beq b) g a w (retag mp g) a w' := {
                blk := by
                  intro x hx ht
                  rcases ht with ht | ht | ⟨q, hq, ht⟩
                  · exact ⟨by rw [ht]; exact retag_imm.2 ht, hne x _ ht (by simp)⟩
                  · exact ⟨by rw [ht]; exact retag_bor.2 ht, hne x _ ht (by simp)⟩
                  · refine ⟨?_, hne x _ ht (by simp)⟩
                    rw [retag_pl ht, ht, mlk_out]
                    simp only [kfMv, Bool.or_eq_false_iff] at hq
                    exact hq.1
                box := by
                  intro x c hx _ hm ht
                  refine ⟨by rw [ht]; exact retag_bx.2 ht, hne x _ ht ?_⟩
                  intro e; injection e with e; subst e
                  simp at hm
                hdr := by
                  intro q x hq hx
                  cases q with
                  | sl k i j => exact hx
                  | bx b' j =>
                    simp only [hdr] at hx ⊢
                    split at hx
                    · rename_i ht
                      have e1 : (retag mp g).ad = g.ad := rfl
                      rw [e1, if_pos (retag_bx.2 ht)]
                      by_cases hb' : b' = b
                      · subst hb'
                        rw [cell_of hw1]
                        rw [cell_of h2] at hx
                        simp only [kfMv, Bool.or_eq_false_iff, inRg] at hq
                        have hout : j < off ∨ off + us.length ≤ j := by
                          have h9 := hq.2
                          rw [Nat.beq_refl, Bool.true_and, Bool.and_eq_false_iff] at h9
                          rcases h9 with h9 | h9
                          · have := Nat.not_le_of_not_ble_eq_true (by rw [h9]; simp)
                            omega
                          · have := Nat.not_le_of_not_ble_eq_true (show ¬ Nat.ble (j + 1) (off + ti.sz) = true from by rw [show Nat.ble (j + 1) (off + ti.sz) = false from h9]; simp)
                            omega
                        have := spl_out (l := arr.toList) (vs := us) (o := (g.ad b').2 + off) (j := (g.ad b').2 + j) (by simpa using hbound) (by omega)
                        have e2 : (⟨spl arr.toList ((g.ad b').2 + off) us⟩ : Array Value)[(g.ad b').2 + j]? = (spl arr.toList ((g.ad b').2 + off) us)[(g.ad b').2 + j]? := by simp
                        rw [e2, this]; simpa using hx
                      · simp only [World.cell?] at hx ⊢
                        rw [hne _ _ ht (by intro e; injection e with e; exact hb' e)]
                        exact hx
                    · cases hx
                ad := fun _ _ => rfl }
              have F : Fr B (retag mp g) w' := by
                refine r.1.1.of (fun _ _ => rfl) hr1 hr2 hr3 (by omega) (fun x _ ht => ⟨by rcases ht with ht | ht; rw [ht]; exact retag_imm.2 ht; rw [ht]; exact retag_bor.2 ht, by rcases ht with ht | ht <;> exact hne x _ ht (by simp)⟩) ?_
                intro x c hlt h0 hg
                refine ⟨retag_bx.2 hg, fun arr1 e1 fr1 ha1 => ?_⟩
                by_cases hxb : c = b
                · subst hxb
                  by_cases hxx : x = (g.ad c).1
                  · subst hxx
                    rw [h2] at ha1
                    injection ha1 with ha1
                    injection ha1 with ha1 ha2 ha3
                    subst ha1; subst ha2; subst ha3
                    refine ⟨_, hw1, by simp [spl_len (by simpa using hbound : (g.ad c).2 + off + us.length ≤ arr.toList.length)], fun j hj => ?_⟩
                    have hr1 := r.1.2 _ c cs0 hlt h0 hb0
                    have hr2 := (r.1.1.2.2.2.2.2.1 _ c hlt h0).2.1
                    have hr3 : (g.ad c).2 = (B.rng c).1 := by rw [hr2]
                    have := spl_out (l := arr.toList) (vs := us) (o := (g.ad c).2 + off) (j := j) (by simpa using hbound) (by omega)
                    simpa using this
                  · exact ⟨arr1, (hw2 x hxx).trans ha1, rfl, fun _ _ => rfl⟩
                · refine ⟨arr1, (hne x _ hg ?_).trans ha1, rfl, fun _ _ => rfl⟩
                  intro e; injection e with e; exact hxb e
              obtain ⟨k1, k2, k3, k4, k5⟩ := RS.kill0 (m := Nat.beq b) none r T F r.2.1 rfl (fun _ _ => rfl)
              refine ⟨w', retag mp g, _, ?_, h, ⟨k1.1, ?_⟩, k2, k3, fun k => k4 k (by simp), fun c cs1 hc1 => ?_⟩
              rotate_left
              · intro x c cs1 hlt h0 hc1
                by_cases hcb : c = b
                · subst hcb
                  have : cs1 = splV cs off vs' := by
                    simp only [St.box, lk, Nat.beq_refl, cond_true, Option.some.injEq] at hc1
                    exact hc1.symm
                  subst this
                  rw [splV_len (by rw [hl', hn]; exact hle'), hlen0]
                  exact r.1.2 x c cs0 hlt h0 hb0
                · have hb2 : Nat.beq b c = false := by
                    cases hb2 : Nat.beq b c with
                    | false => rfl
                    | true => exact absurd (Nat.eq_of_beq_eq_true hb2).symm hcb
                  have : (σ.kill (kfMv mp (inRg b off ti.sz))).box c = some cs1 := by
                    simp only [St.box, lk, hb2, cond_false] at hc1
                    exact hc1
                  exact k1.2 x c cs1 hlt h0 this
              rotate_right
              · have : u.cells.size = ti.sz := by rw [← Array.length_toList, hcells, hus, hn]
                simp [storeVar, run_sizeOf_of hΘ hti, this, hcells, hst]
              · by_cases hcb : c = b
                · subst hcb
                  have : cs1 = splV cs off vs' := by
                    simp only [St.box, lk, Nat.beq_refl, cond_true, Option.some.injEq] at hc1
                    exact hc1.symm
                  subst this
                  refine ⟨retag_bx.2 h1, _, e, fr, hw1, fun j v9 hv9 => ?_⟩
                  have hsplen : off + vs'.length ≤ cs.length := by rw [hl', hn]; exact hle'
                  rcases splV_get hsplen hv9 with ⟨g1, g2, g3⟩ | ⟨g1, g2⟩
                  · have hj : ∃ x, us[j - off]? = some x := ⟨_, List.getElem?_eq_getElem (by omega)⟩
                    obtain ⟨x, hx⟩ := hj
                    have hin := spl_in (l := arr.toList) (vs := us) (o := (g.ad c).2 + off) (j := j - off) (by simpa using hbound) (by omega)
                    refine ⟨?_, x, ?_, ?_, ?_⟩
                    · have := hfroz (j - off) (by omega)
                      rwa [show (g.ad c).2 + off + (j - off) = (g.ad c).2 + j from by omega] at this
                    · rw [show (g.ad c).2 + off + (j - off) = (g.ad c).2 + j from by omega] at hin
                      have e2 : (⟨spl arr.toList ((g.ad c).2 + off) us⟩ : Array Value)[(g.ad c).2 + j]? = (spl arr.toList ((g.ad c).2 + off) us)[(g.ad c).2 + j]? := by simp
                      show (⟨spl arr.toList ((g.ad c).2 + off) us⟩ : Array Value)[(g.ad c).2 + j]? = some x
                      rw [e2, hin, hx]
                    · exact hone x (List.mem_of_getElem? hx)
                    · have := moved (p := .bx c) (j := off) T hcl (fun x q _ hx => ⟨retag_pl hx, hne x _ hx (by simp)⟩) (fun x _ hx => ⟨retag_imm.2 hx, hne x _ hx (by simp)⟩) hget (j - off) v9 x g3 hx
                      rwa [show off + (j - off) = j from by omega] at this
                  · rw [hcs] at g2
                    obtain ⟨v0, hv0, rfl⟩ := killL_get _ (.bx c) cs0 0 j v9 g2
                    obtain ⟨h4, x, h5, h6, h7⟩ := h3 j v0 hv0
                    refine ⟨h4, x, ?_, h6, by simpa using RC.kill T h7⟩
                    have := spl_out (l := arr.toList) (vs := us) (o := (g.ad c).2 + off) (j := (g.ad c).2 + j) (by simpa using hbound) (by omega)
                    have e2 : (⟨spl arr.toList ((g.ad c).2 + off) us⟩ : Array Value)[(g.ad c).2 + j]? = (spl arr.toList ((g.ad c).2 + off) us)[(g.ad c).2 + j]? := by simp
                    show (⟨spl arr.toList ((g.ad c).2 + off) us⟩ : Array Value)[(g.ad c).2 + j]? = some x
                    rw [e2, this]; simpa using h5
                · have hb2 : Nat.beq b c = false := by
                    cases hb2 : Nat.beq b c with
                    | false => rfl
                    | true => exact absurd (Nat.eq_of_beq_eq_true hb2).symm hcb
                  have : (σ.kill (kfMv mp (inRg b off ti.sz))).box c = some cs1 := by
                    simp only [St.box, lk, hb2, cond_false] at hc1
                    exact hc1
                  exact k5 c cs1 hb2 this
end ops
end Go.Proofs.YtfdmlccbfbiloaaGreatDoor.Vs
/- The calculus: new boxes; the store as an operation. -/
namespace Go.Proofs.YtfdmlccbfbiloaaGreatDoor.Vs
open Go
variable [Gl]
set_option linter.unusedSectionVars false
def kfNew (mp : List (Pl × Pl)) (d : Nat) : KF := ⟨fun q => isIn q mp || inBx d q, fun q => isIn q mp || inBx d q, Nat.beq d⟩
def vnewB (σ : St) (d : Nat) (v : V) (K : V → St → Prop) : Prop :=
  bif (vsing v).all live then (match absorb σ (.bx d) 0 (vsing v) with
    | none => False
    | some (vs', mp) => bif cleanL (kfNew mp d) vs' then fcVs vs' fun vs' => vforget σ (kfNew mp d) fun σ' => (match σ' with | ⟨s, bb⟩ => K (.ptr d 0) ⟨s, (d, vs') :: bb⟩) else False) else False

section ops
variable {P : Program} {B : Bs} {g : Gh} {σ : St} {a : Act} {w : World} {o : Oper} {d : Nat} {K : V → St → Prop} {Θ : Nat → Option TI}

def newG (mp : List (Pl × Pl)) (g : Gh) (n d : Nat) : Gh := ⟨fun b => if b = n then .bx d else (retag mp g).ow b, fun b => if b = d then (n, 0) else g.ad b⟩

theorem alloc_old (w : World) (ob : Obj) (b : Nat) (h : b < w.heap.size) : (w.alloc ob).heap[b]? = w.heap[b]? := by
  show (w.heap.push ob)[b]? = _
  rw [Array.getElem?_push, if_neg (by omega)]
theorem alloc_new (w : World) (ob : Obj) : (w.alloc ob).heap[w.heap.size]? = some ob := by
  show (w.heap.push ob)[w.heap.size]? = _
  rw [Array.getElem?_push, if_pos rfl]

theorem vnewB_sound {v : V} {u : Value} {k : Nat} (hd : d < B.n) (h : vnewB σ d v K) (r : RS B g σ a w) (hv : RT g a w k v u) (t : TypeId) :
    ∃ g' σ' v', K v' σ' ∧ RS B g' σ' a (w.alloc (.cells u.cells t)) ∧ RT g' a (w.alloc (.cells u.cells t)) d v' (.pointer (some ⟨w.heap.size, 0, none⟩)) := by
  unfold vnewB at h
  cases hc3 : (vsing v).all live with
  | false => simp only [hc3, cond_false] at h
  | true =>
    simp only [hc3, cond_true] at h
    obtain ⟨us, hus, hcells, hagg, hrc⟩ := hv.sing hc3
    cases hab : absorb σ (.bx d) 0 (vsing v) with
    | none => simp only [hab] at h
    | some x =>
      obtain ⟨vs', mp⟩ := x
      simp only [hab] at h
      obtain ⟨hl', hget⟩ := absorb_sound r (.bx d) (vsing v) us 0 vs' mp hab hus hrc
      cases hcl : cleanL (kfNew mp d) vs' with
      | false => simp only [hcl, cond_false] at h
      | true =>
        simp only [hcl, cond_true] at h
        have h := fcVs_eq h
        have h := vforget_eq (K := fun σ' => K (.ptr d 0) ⟨σ'.s, (d, vs') :: σ'.b⟩) h
        have hne : ∀ b, (w.heap[b]?).isSome = true → ¬ b = w.heap.size := fun b hb => by have := heap_lt hb; omega
        have hold : ∀ b, (w.heap[b]?).isSome = true → (w.alloc (.cells u.cells t)).heap[b]? = w.heap[b]? := fun b hb => alloc_old _ _ _ (heap_lt hb)
        have how : ∀ b, (w.heap[b]?).isSome = true → (newG mp g w.heap.size d).ow b = (retag mp g).ow b := fun b hb => by simp [newG, hne b hb]
        have T : Turns (kfNew mp d) (fun _ => false) g a w (newG mp g w.heap.size d) a (w.alloc (.cells u.cells t)) := {
          blk := by
            intro x hx ht
            refine ⟨?_, hold x hx⟩
            rw [how x hx]
            rcases ht with ht | ht | ⟨q, hq, ht⟩
            · rw [ht]; exact retag_imm.2 ht
            · rw [ht]; exact retag_bor.2 ht
            · rw [retag_pl ht, ht, mlk_out]
              simp only [kfNew, Bool.or_eq_false_iff] at hq
              exact hq.1
          box := by
            intro x c hx _ _ ht
            exact ⟨by rw [how x hx, ht]; exact retag_bx.2 ht, hold x hx⟩
          hdr := by
            intro q x hq hx
            cases q with
            | sl k i j => exact hx
            | bx b j =>
              simp only [hdr] at hx ⊢
              split at hx
              · rename_i ht
                have hbd : ¬ b = d := by
                  rintro rfl
                  simp [kfNew, inBx] at hq
                have hex : (w.heap[(g.ad b).1]?).isSome = true := by
                  cases e : w.heap[(g.ad b).1]? with
                  | none => simp only [World.cell?, e] at hx; cases hx
                  | some _ => rfl
                have e1 : (newG mp g w.heap.size d).ad b = g.ad b := by simp [newG, hbd]
                rw [e1, how _ hex, if_pos (retag_bx.2 ht)]
                simp only [World.cell?, hold _ hex] at hx ⊢
                exact hx
              · cases hx
          ad := by
            intro b hb
            have : ¬ b = d := by
              rintro rfl
              simp [kfNew] at hb
            simp [newG, this] }
        have F : Fr B (newG mp g w.heap.size d) (w.alloc (.cells u.cells t)) := by
          refine r.1.1.of (fun k hk => by simp [newG, show ¬ k = d by omega]) rfl rfl rfl (by show _ ≤ (w.heap.push _).size; simp) (fun x hx ht => ?_) (fun x c hlt h0 hg => ?_)
          · refine ⟨?_, alloc_old _ _ _ hx⟩
            have : ¬ x = w.heap.size := by omega
            simp only [newG, this, if_false]
            rcases ht with ht | ht
            · rw [ht]; exact retag_imm.2 ht
            · rw [ht]; exact retag_bor.2 ht
          · have hx : x < w.heap.size := Nat.lt_of_lt_of_le hlt r.1.1.2.2.2.1
            refine ⟨?_, fun arr e fr ha => ⟨arr, (alloc_old _ _ _ hx).trans ha, rfl, fun _ _ => rfl⟩⟩
            have : ¬ x = w.heap.size := by omega
            simp only [newG, this, if_false]
            exact retag_bx.2 hg
        obtain ⟨k1, k2, k3, k4, k5⟩ := RS.kill0 (m := fun _ => false) none r T F r.2.1 rfl (fun _ _ => rfl)
        have hbeq : ∀ c, ¬ c = d → Nat.beq d c = false := by
          intro c hc
          cases hb2 : Nat.beq d c with
          | false => rfl
          | true => exact absurd (Nat.eq_of_beq_eq_true hb2).symm hc
        refine ⟨_, _, _, h, ⟨⟨k1.1, ?_⟩, k2, k3, fun k => k4 k (by simp), fun c cs1 hc1 => ?_⟩, ?_⟩
        · intro x c cs1 hlt h0 hc1
          have hcd : ¬ c = d := by
            have := (r.1.1.2.2.2.2.2.1 x c hlt h0).1
            omega
          simp only [St.box, lk, hbeq c hcd, cond_false] at hc1
          exact k1.2 x c cs1 hlt h0 hc1
        · by_cases hcd : c = d
          · subst hcd
            have : cs1 = vs' := by
              simp only [St.box, lk, Nat.beq_refl, cond_true, Option.some.injEq] at hc1
              exact hc1.symm
            subst this
            refine ⟨by simp [newG], u.cells, t, (0, 0), by simp only [newG, if_true]; exact alloc_new _ _, fun j v9 hv9 => ?_⟩
            have hj : j < us.length := by
              have := (List.getElem?_eq_some_iff.1 hv9).1
              omega
            have hx : us[j]? = some us[j] := List.getElem?_eq_getElem hj
            refine ⟨by simp, us[j], ?_, ?_, ?_⟩
            · have : u.cells[j]? = us[j]? := by rw [← hcells]; simp
              simp only [newG, if_true, Nat.zero_add]
              rw [this, hx]
            · have hj' : j < (vsing v).length := by omega
              obtain ⟨q, hq⟩ := hrc j (vsing v)[j] us[j] (List.getElem?_eq_getElem hj') hx
              exact RC.oneCell (by rw [List.all_eq_true] at hc3; exact hc3 _ (List.getElem_mem hj')) hq
            · have := moved (p := .bx c) (j := 0) T hcl (fun x q hx hq => ⟨by rw [how x hx]; exact retag_pl hq, hold x hx⟩) (fun x hx hq => ⟨by rw [how x hx]; exact retag_imm.2 hq, hold x hx⟩) hget j v9 us[j] hv9 hx
              rwa [Nat.zero_add] at this
          · simp only [St.box, lk, hbeq c hcd, cond_false] at hc1
            exact k5 c cs1 rfl hc1
        · show _ = _
          simp [newG]

def vbox (_Θ : Nat → Option TI) (σ : St) (d : Nat) (x : Operand) (K : V → St → Prop) : Prop := vnewB σ d (σ.ev x) K
theorem vbox_sound {t : TypeId} {x : Operand} (ho : o.op = .box t x) (hd : d < B.n) (h : vbox Θ σ d x K) (r : RS B g σ a w) : Done P B o a w d K := by
  obtain ⟨g', σ', v', h1, h2, h3⟩ := vnewB_sound hd h r (r.ev x d) t
  exact ⟨_, _, g', σ', v', by simp [execOp, ho, Instr.box, newVar, newRow], h1, h2, h3⟩
def valloc (Θ : Nat → Option TI) (t : Nat) (σ : St) (d : Nat) (K : V → St → Prop) : Prop :=
  match Θ t with
  | some ti => vnewB σ d (.agg (ti.zero.map .val)) K
  | none => False
theorem valloc_sound (hΘ : ThOk P Θ) {t : TypeId} (ho : o.op = .alloc t) (hd : d < B.n) (h : valloc Θ t σ d K) (r : RS B g σ a w) : Done P B o a w d K := by
  unfold valloc at h
  split at h
  · rename_i ti hti
    have ok := hΘ t ti hti
    obtain ⟨inf, z, i1, i2, i3, i4, i5⟩ := ok.info
    have hv : RT g a w d (.agg (ti.zero.map .val)) (.agg ti.zero.toArray) := by
      refine ⟨ti.zero.toArray, rfl, by simp, fun j v x hv hx => ?_⟩
      rw [List.getElem?_map] at hv
      have hx' : ti.zero[j]? = some x := by simpa using hx
      rw [hx'] at hv
      simp only [Option.map_some, Option.some.injEq] at hv
      subst hv
      exact ⟨rfl, by have := ok.one; rw [List.all_eq_true] at this; exact this x (List.mem_of_getElem? hx')⟩
    obtain ⟨g', σ', v', h1, h2, h3⟩ := vnewB_sound hd h r hv t
    have e : (Value.agg ti.zero.toArray).cells = z.cells := by
      show ti.zero.toArray = z.cells
      rw [← i5]
    rw [e] at h2 h3
    exact ⟨_, _, g', σ', v', by simp [execOp, ho, Instr.alloc, zeroValue, typeInfo, i1, i4, newVar, newRow], h1, h2, h3⟩
  · exact h.elim
end ops
end Go.Proofs.YtfdmlccbfbiloaaGreatDoor.Vs
/- The calculus: lists that one owns: made, appended to. -/
namespace Go.Proofs.YtfdmlccbfbiloaaGreatDoor.Vs
open Go
variable [Gl]
set_option linter.unusedSectionVars false

/-! #### own elements in a row -/
theorem OwE.len {I : Nat → Prop} {w : World} {s : Nat} : ∀ {xs : List (List C)} {us : List Value} {f : List Nat}, OwE I w s xs us f → xs.length * s ≤ us.length
  | [], _, _, _ => by simp
  | c :: r, us, f, h => by
    simp only [OwE] at h
    obtain ⟨h1, f1, f2, rfl, h2, h3⟩ := h
    have h4 := OwE.len h3
    have h5 : c.length ≤ us.length := OwL.len h2
    simp only [List.length_drop] at h4
    rw [List.length_cons, Nat.succ_mul]; omega
where
  OwL.len {I : Nat → Prop} {w : World} : ∀ {cs : List C} {us : List Value} {f : List Nat}, OwL I w cs us f → cs.length ≤ us.length
    | [], _, _, _ => by simp
    | c :: r, us, f, h => by
      simp only [OwL] at h
      obtain ⟨u, us', f1, f2, rfl, rfl, h1, h2⟩ := h
      simpa using OwL.len h2
theorem OwL.congr {I : Nat → Prop} {w : World} : ∀ {cs : List C} {us us' : List Value} {f : List Nat}, OwL I w cs us f → us.take cs.length = us'.take cs.length → OwL I w cs us' f
  | [], _, _, _, h, _ => by simpa [OwL] using h
  | c :: r, us, us', f, h, e => by
    simp only [OwL] at h ⊢
    obtain ⟨u, us1, f1, f2, rfl, rfl, h1, h2⟩ := h
    cases us' with
    | nil => simp at e
    | cons u' us2 =>
      simp only [List.length_cons, List.take_succ_cons, List.cons.injEq] at e
      obtain ⟨rfl, e⟩ := e
      exact ⟨u, us2, f1, f2, rfl, rfl, h1, OwL.congr h2 e⟩
theorem OwE.congr {I : Nat → Prop} {w : World} {s : Nat} : ∀ {xs : List (List C)} {us us' : List Value} {f : List Nat}, OwE I w s xs us f → us.take (xs.length * s) = us'.take (xs.length * s) → OwE I w s xs us' f
  | [], _, _, _, h, _ => by simpa [OwE] using h
  | c :: r, us, us', f, h, e => by
    simp only [OwE] at h ⊢
    obtain ⟨h1, f1, f2, rfl, h2, h3⟩ := h
    rw [List.length_cons, Nat.succ_mul] at e
    refine ⟨h1, f1, f2, rfl, OwL.congr h2 ?_, OwE.congr h3 ?_⟩
    · have := congrArg (List.take s) e
      simpa [List.take_take, h1, show min s (r.length * s + s) = s from by omega] using this
    · have := congrArg (List.drop s) e
      rw [List.drop_take, List.drop_take] at this
      simpa using this
theorem OwE.app {I : Nat → Prop} {w : World} {s : Nat} : ∀ {xs ys : List (List C)} {us : List Value} {f1 f2 : List Nat}, OwE I w s xs us f1 → OwE I w s ys (us.drop (xs.length * s)) f2 → OwE I w s (xs ++ ys) us (f1 ++ f2)
  | [], ys, us, f1, f2, h1, h2 => by
    simp only [OwE] at h1
    subst h1
    simpa using h2
  | c :: r, ys, us, f1, f2, h1, h2 => by
    simp only [OwE] at h1
    obtain ⟨e1, g1, g2, rfl, e2, e3⟩ := h1
    simp only [List.cons_append, OwE]
    refine ⟨e1, g1, g2 ++ f2, by simp, e2, OwE.app e3 ?_⟩
    rw [List.drop_drop]
    rwa [List.length_cons, Nat.succ_mul, Nat.add_comm] at h2
theorem OwE.take {I : Nat → Prop} {w : World} {s : Nat} : ∀ {xs : List (List C)} {us : List Value} {f : List Nat} (n : Nat), OwE I w s xs us f → ∃ f', f'.Sublist f ∧ OwE I w s (xs.take n) us f'
  | [], us, f, n, h => ⟨f, List.Sublist.refl _, by simpa using h⟩
  | c :: r, us, f, n, h => by
    cases n with
    | zero => exact ⟨[], List.nil_sublist _, by simp [OwE]⟩
    | succ n =>
      simp only [OwE] at h
      obtain ⟨e1, g1, g2, rfl, e2, e3⟩ := h
      obtain ⟨f', h1, h2⟩ := OwE.take n e3
      simp only [List.take_succ_cons, OwE]
      exact ⟨g1 ++ f', List.Sublist.append_left h1 g1, e1, g1, f', rfl, e2, h2⟩

/-! #### append, run -/
section
variable {P : Program} {w : World}
theorem run_app_room {t t2 ty e : TypeId} {x2 : TypeDesc} (ht : P.underlying t = some (.slice e)) (ht2 : P.underlying t2 = some x2) (hx2 : ∀ k, x2 ≠ .int k) {s : Nat} (hs : (sizeOf e).run P w = .ok s w)
    {base : Option Addr} {sLen sCap n : Nat} {x : Value} (hn : (Builtin.lenOf x).run P w = .ok n w) {news : List Value} (hf : (Builtin.firstCells s n x).run P w = .ok news.toArray w) (hroom : sLen + n ≤ sCap) {w' : World}
    (hst : match base with | some b => (storeCells (b.add (sLen * s)) news).run P w = .ok () w' | none => w' = w) :
    (Builtin.append_ #[t, t2] ty #[.slice base sLen sCap, x]).run P w = .ok (.slice base (sLen + n) sCap) w' := by
  have hz : (match x2 with | .int _ => true | _ => false) = false := by cases x2 <;> first | rfl | exact absurd rfl (hx2 _)
  have e1 : (underlying t2).run P w = .ok x2 w := run_und ht2
  cases base with
  | none =>
    subst hst
    simp [Builtin.append_, run_und ht, hs, e1]
    cases x2 <;> simp [hn, hroom, hf] <;> exact absurd rfl (hx2 _)
  | some b =>
    simp only at hst
    simp [Builtin.append_, run_und ht, hs, e1]
    cases x2 <;> simp [hn, hroom, hf, hst] <;> exact absurd rfl (hx2 _)
theorem run_app_grow {t t2 ty e : TypeId} {x2 : TypeDesc} (ht : P.underlying t = some (.slice e)) (ht2 : P.underlying t2 = some x2) (hx2 : ∀ k, x2 ≠ .int k) {inf : TypeInfo} {z : Value} (hi : P.info? e = some inf) (hz : inf.zero = some z)
    {base : Option Addr} {sLen sCap n : Nat} {x : Value} (hn : (Builtin.lenOf x).run P w = .ok n w) {news olds : List Value} (hf : (Builtin.firstCells inf.size n x).run P w.drew = .ok news.toArray w.drew)
    (ho : (Builtin.firstCells inf.size sLen (.slice base sLen sCap)).run P w.drew = .ok olds.toArray w.drew) (hroom : sCap < sLen + n) (h63 : sLen + n ≤ cap63) (hfit : (sLen + n) * inf.bytes ≤ 140737488355328) :
    (Builtin.append_ #[t, t2] ty #[.slice base sLen sCap, x]).run P w = .ok (.slice (some ⟨w.heap.size, 0, none⟩) (sLen + n) (grownCap w (sLen + n) sCap e))
      (w.drew.alloc (.cells (olds.toArray ++ news.toArray ++ Builtin.zeroCells z.cells (grownCap w (sLen + n) sCap e - (sLen + n))) e)) := by
  have h1 : ¬ (sLen + n ≤ sCap) := by omega
  have h2 : ¬ (9223372036854775807 < ((sLen : Int) + (n : Int))) := by unfold cap63 at h63; omega
  have h3 : ¬ (281474976710656 < Builtin.nextslicecap (sLen + n) sCap * inf.bytes) := by
    have := growslice_fits (need := sLen + n) (old := sCap) (bytes := inf.bytes) hroom hfit
    omega
  have e1 : (underlying t2).run P w = .ok x2 w := run_und ht2
  simp [Builtin.append_, run_und ht, sizeOf, typeInfo, zeroValue, hi, hz, e1]
  cases x2 <;> first | exact absurd rfl (hx2 _) | (simp [hn, h1, h2, h3, Question.forced, hf, ho, newRow, grownCap] <;> (congr 2; apply Array.ext'; simp [List.append_assoc]))
end
end Go.Proofs.YtfdmlccbfbiloaaGreatDoor.Vs
/- The calculus: append. -/
namespace Go.Proofs.YtfdmlccbfbiloaaGreatDoor.Vs
open Go
variable [Gl]
set_option linter.unusedSectionVars false

def flatE (ys : List (List C)) : Prop := ∀ c ∈ ys, ∀ x ∈ c, ∃ y, x = C.v y

section
variable {P : Program} {B : Bs} {g : Gh} {σ : St} {a : Act} {w : World} {o : Oper} {d : Nat} {K : V → St → Prop} {Θ : Nat → Option TI}

/-- what append takes its new elements from -/
structure Src (P : Program) (I : Nat → Prop) (w : World) (s : Nat) (x : Value) (ys : List (List C)) (news : List Value) (f : List Nat) : Prop where
  len : ∀ w', (Builtin.lenOf x).run P w' = .ok ys.length w'
  cells : ∀ w', w'.heap = w.heap → (Builtin.firstCells s ys.length x).run P w' = .ok news.toArray w'
  own : OwE I w s ys news f
  size : news.length = ys.length * s
  one : ∀ v ∈ news, v.oneCell' = true

theorem RdL.flat {S : Bool → Nat → Prop} {I : Nat → Prop} : ∀ {cs : List C} {us : List Value}, RdL S w cs us → (∀ x ∈ cs, ∃ y, x = C.v y) → OwL I w cs us [] ∧ ∀ v ∈ us.take cs.length, v.oneCell' = true
  | [], us, h, _ => ⟨by simp [OwL], by simp⟩
  | c :: r, us, h, hf => by
    simp only [RdL] at h
    obtain ⟨u, us', rfl, h1, h2⟩ := h
    obtain ⟨y, rfl⟩ := hf c (by simp)
    obtain ⟨h3, h4⟩ := RdL.flat (I := I) h2 (fun x hx => hf x (by simp [hx]))
    simp only [Rd] at h1
    refine ⟨by simp only [OwL]; exact ⟨u, us', [], [], rfl, rfl, by simp only [Ow]; exact ⟨h1, trivial⟩, h3⟩, ?_⟩
    intro v hv
    simp only [List.length_cons, List.take_succ_cons, List.mem_cons] at hv
    rcases hv with rfl | hv
    · rw [h1.1]; exact h1.2
    · exact h4 v hv
theorem RdE.flat {S : Bool → Nat → Prop} {I : Nat → Prop} {s : Nat} : ∀ {ys : List (List C)} {us : List Value}, RdE S w s ys us → flatE ys → OwE I w s ys us [] ∧ ∀ v ∈ us.take (ys.length * s), v.oneCell' = true
  | [], us, h, _ => ⟨by simp [OwE], by simp⟩
  | c :: r, us, h, hf => by
    simp only [RdE] at h
    obtain ⟨h1, h2, h3⟩ := h
    obtain ⟨k1, k2⟩ := RdL.flat (I := I) h2 (hf c (by simp))
    obtain ⟨k3, k4⟩ := RdE.flat (I := I) h3 (fun c' hc => hf c' (by simp [hc]))
    refine ⟨by simp only [OwE]; exact ⟨h1, [], [], rfl, k1, k3⟩, ?_⟩
    intro v hv
    rw [List.length_cons, Nat.succ_mul, Nat.add_comm, List.take_add] at hv
    rcases List.mem_append.1 hv with hv | hv
    · exact k2 v (by rw [h1]; exact hv)
    · exact k4 v hv
mutual
theorem OwL.one {I : Nat → Prop} : ∀ {cs : List C} {us : List Value} {f : List Nat}, OwL I w cs us f → ∀ v ∈ us.take cs.length, v.oneCell' = true
  | [], _, _, _ => by simp
  | c :: r, us, f, h => by
    simp only [OwL] at h
    obtain ⟨u, us', f1, f2, rfl, rfl, h1, h2⟩ := h
    intro v hv
    simp only [List.length_cons, List.take_succ_cons, List.mem_cons] at hv
    rcases hv with rfl | hv
    · exact Ow.one h1
    · exact OwL.one h2 v hv
end
theorem OwE.one {I : Nat → Prop} {s : Nat} : ∀ {ys : List (List C)} {us : List Value} {f : List Nat}, OwE I w s ys us f → ∀ v ∈ us.take (ys.length * s), v.oneCell' = true
  | [], _, _, _ => by simp
  | c :: r, us, f, h => by
    simp only [OwE] at h
    obtain ⟨h1, f1, f2, rfl, h2, h3⟩ := h
    intro v hv
    rw [List.length_cons, Nat.succ_mul, Nat.add_comm, List.take_add] at hv
    rcases List.mem_append.1 hv with hv | hv
    · exact OwL.one h2 v (by rw [h1]; exact hv)
    · exact OwE.one h3 v hv

theorem firstCells_run {s n : Nat} {ad : Addr} {cap : Nat} {arr : Array Value} {e : TypeId} {fr : Nat × Nat} (hs : ad.spot = none) (hb : w.heap[ad.block]? = some (.cells arr e fr)) (hl : n * s ≤ (arr.toList.drop ad.off).length) :
    ∀ w', w'.heap = w.heap → (Builtin.firstCells s n (.slice (some ad) n cap)).run P w' = .ok ((arr.toList.drop ad.off).take (n * s)).toArray w' := by
  intro w' hw
  refine run_firstCells_some (P := P) w' s n ad n cap _ (by rw [List.length_take_of_le hl]) (fun j v hv => ?_)
  rw [add_at hs, cell_of (by rw [hw]; exact hb)]
  rw [List.getElem?_take] at hv
  split at hv
  · rw [List.getElem?_drop] at hv; simpa using hv
  · cases hv

/-- a list that is read: its elements are copied -/
theorem Src.copy {S : Bool → Nat → Prop} {I : Nat → Prop} {k : Bool} {s : Nat} {ys : List (List C)} {u : Value} (h : Rd S w (.sl k s ys) u) (hf : flatE ys) : ∃ news, Src P I w s u ys news [] := by
  simp only [Rd] at h
  obtain ⟨A, cap, rfl, h1, h2, h3⟩ := h
  have hlen : ∀ w', (Builtin.lenOf (.slice A ys.length cap)).run P w' = .ok ys.length w' := fun w' => by simp [Builtin.lenOf]
  rcases h3 with h3 | ⟨ad, arr, e, fr, rfl, hs, hS, hb, hE⟩
  · have : ys = [] := List.eq_nil_of_length_eq_zero h3
    subst this
    refine ⟨[], hlen, fun w' _ => ?_, by simp [OwE], by simp, by simp⟩
    cases A with
    | none => simp [Builtin.firstCells]
    | some ad => simp [Builtin.firstCells, loadCells, loadCellsFrom]
  · have hl := hE.len
    obtain ⟨k1, k2⟩ := RdE.flat (I := I) hE hf
    refine ⟨(arr.toList.drop ad.off).take (ys.length * s), hlen, firstCells_run hs hb hl, k1.congr (by rw [List.take_take, Nat.min_self]), List.length_take_of_le hl, k2⟩
/-- an own list: its elements go over -/
theorem Src.move {I : Nat → Prop} {s : Nat} {ys : List (List C)} {u : Value} {fp : List Nat} (h : Ow I w (.sl true s ys) u fp) : ∃ news f, Src P I w s u ys news f ∧ f.Sublist fp := by
  simp only [Ow] at h
  rcases h with ⟨rfl, rfl, rfl⟩ | ⟨b, arr, e, cap, f, fr, rfl, h1, h2, h3, h3', h4, h5, rfl⟩
  · exact ⟨[], [], ⟨fun w' => by simp [Builtin.lenOf], fun w' _ => by simp [Builtin.firstCells], by simp [OwE], by simp, by simp⟩, List.Sublist.refl _⟩
  · have hl := h5.len
    exact ⟨arr.toList.take (ys.length * s), f, ⟨fun w' => by simp [Builtin.lenOf], firstCells_run (ad := ⟨b, 0, none⟩) rfl h3 (by simpa using hl), h5.congr (by rw [List.take_take, Nat.min_self]), List.length_take_of_le hl, OwE.one h5⟩, List.sublist_cons_self _ _⟩
/-- a text: its bytes are copied -/
theorem Src.text {I : Nat → Prop} {str : ByteArray} : Src P I w 1 (.string str) (bytesC (sb str)) ((sb str).map fun b => Value.int .u8 b.toNat) [] := by
  have hE : ∀ l : List UInt8, OwE I w 1 (bytesC l) (l.map fun b => Value.int .u8 b.toNat) [] := by
    intro l
    induction l with
    | nil => simp [bytesC, OwE]
    | cons b r ih =>
      simp only [bytesC, List.map_cons, OwE]
      exact ⟨rfl, [], [], rfl, by simp [OwL, Ow, Value.oneCell'], by simpa [bytesC] using ih⟩
  have hs : str.size = (sb str).length := rfl
  refine ⟨fun w' => by simp [Builtin.lenOf, bytesC, hs], fun w' _ => ?_, hE _, by simp [bytesC], ?_⟩
  · have e : (str.extract 0 (sb str).length).data = str.data := by
      apply Array.ext'
      simp [sb]
    show (Sem.run P (pure ((str.extract 0 (bytesC (sb str)).length).data.map fun b => Value.int .u8 b.toNat)) w') = _
    rw [show (bytesC (sb str)).length = (sb str).length from by simp [bytesC], e, Sem.run_pure]
    congr 1
    apply Array.ext'
    simp [sb]
  · intro v hv
    obtain ⟨b, _, rfl⟩ := List.mem_map.1 hv
    rfl

end
end Go.Proofs.YtfdmlccbfbiloaaGreatDoor.Vs
/- The calculus: append, as an operation. -/
namespace Go.Proofs.YtfdmlccbfbiloaaGreatDoor.Vs
open Go
variable [Gl]
set_option linter.unusedSectionVars false
section
variable {P : Program} {B : Bs} {g : Gh} {σ : St} {a : Act} {w : World} {o : Oper} {d : Nat} {K : V → St → Prop} {Θ : Nat → Option TI}

/-- ghost: what goes over to p, and a new block that is p's, too -/
def goG (mp : List (Pl × Pl)) (g : Gh) (n : Nat) (p : Pl) : Gh := ⟨fun b => if b = n then .pl p else (retag mp g).ow b, g.ad⟩

/-- own lists go over to a place p; a block b0 of theirs may be written; a new block may be made -/
theorem RS.goes {mp : List (Pl × Pl)} {p : Pl} {w' : World} {n : Nat} (r : RS B g σ a w) (hn : w.heap.size ≤ n)
    (hw : ∀ b, b < w.heap.size → (∀ q, g.ow b = .pl q → isIn q mp = false) → w'.heap[b]? = w.heap[b]?)
    (h1 : w'.os = w.os) (h2 : w'.tape = w.tape) (h3 : w'.output = w.output) (h4 : w.heap.size ≤ w'.heap.size) : RS B (goG mp g n p) (σ.kill (kfMv mp noP)) a w' := by
  have hne : ∀ b, b < w.heap.size → ¬ b = n := fun b hb => by omega
  have how : ∀ b, b < w.heap.size → (goG mp g n p).ow b = (retag mp g).ow b := fun b hb => by simp [goG, hne b hb]
  have hnp : ∀ b t, g.ow b = t → (∀ q, t ≠ .pl q) → b < w.heap.size → w'.heap[b]? = w.heap[b]? := fun b t ht hq hb => hw b hb (fun q e => absurd (ht.symm.trans e) (hq q))
  have T : Turns (kfMv mp noP) (fun _ => false) g a w (goG mp g n p) a w' := {
    blk := by
      intro x hx ht
      have hlt := heap_lt hx
      rw [how x hlt]
      rcases ht with ht | ht | ⟨q, hq, ht⟩
      · exact ⟨by rw [ht]; exact retag_imm.2 ht, hnp x _ ht (by simp) hlt⟩
      · exact ⟨by rw [ht]; exact retag_bor.2 ht, hnp x _ ht (by simp) hlt⟩
      · simp only [kfMv, noP, Bool.or_false] at hq
        exact ⟨by rw [retag_pl ht, ht, mlk_out hq], hw x hlt (fun q' e => by rw [ht] at e; injection e with e; subst e; exact hq)⟩
    box := by
      intro x c hx _ _ ht
      have hlt := heap_lt hx
      exact ⟨by rw [how x hlt, ht]; exact retag_bx.2 ht, hnp x _ ht (by simp) hlt⟩
    hdr := by
      intro q x hq hx
      cases q with
      | sl k i j => exact hx
      | bx b j =>
        simp only [hdr] at hx ⊢
        split at hx
        · rename_i ht
          have hex : (w.heap[(g.ad b).1]?).isSome = true := by
            cases e : w.heap[(g.ad b).1]? with
            | none => simp only [World.cell?, e] at hx; cases hx
            | some _ => rfl
          have hlt := heap_lt hex
          have e1 : (goG mp g n p).ad b = g.ad b := rfl
          rw [e1, how _ hlt, if_pos (retag_bx.2 ht)]
          simp only [World.cell?, hnp _ _ ht (by simp) hlt] at hx ⊢
          exact hx
        · cases hx
    ad := fun _ _ => rfl }
  have F : Fr B (goG mp g n p) w' := by
    refine r.1.1.of (fun _ _ => rfl) h1 h2 h3 h4 (fun x hx ht => ?_) (fun x c hlt h0 hg => ?_)
    · rw [how x hx]
      rcases ht with ht | ht
      · exact ⟨by rw [ht]; exact retag_imm.2 ht, hnp x _ ht (by simp) hx⟩
      · exact ⟨by rw [ht]; exact retag_bor.2 ht, hnp x _ ht (by simp) hx⟩
    · have hx : x < w.heap.size := Nat.lt_of_lt_of_le hlt r.1.1.2.2.2.1
      rw [how x hx]
      exact ⟨retag_bx.2 hg, fun arr e fr ha => ⟨arr, (hnp x _ hg (by simp) hx).trans ha, rfl, fun _ _ => rfl⟩⟩
  exact RS.kill r T F r.2.1 rfl (fun _ => rfl)

/-- an own list, or the first n of one, as what is appended to -/
structure Dst (g : Gh) (w : World) (mp : List (Pl × Pl)) (s : Nat) (A : Option Addr) (n cap : Nat) (xs : List (List C)) : Prop where
  len : xs.length = n
  le : n ≤ cap
  mx : cap ≤ cap63
  own : (A = none ∧ n = 0 ∧ cap = 0) ∨ ∃ q b arr e fr f, A = some ⟨b, 0, none⟩ ∧ isIn q mp = true ∧ w.heap[b]? = some (.cells arr e fr) ∧ (fr.1 = fr.2 ∨ arr.size ≤ fr.1) ∧ arr.size = cap * s ∧
    OwE (fun b => g.ow b = .imm) w s xs arr.toList f ∧ (b :: f).Nodup ∧ ∀ b' ∈ b :: f, g.ow b' = .pl q

theorem Dst.of {mp : List (Pl × Pl)} {q : Pl} {s n : Nat} {xs : List (List C)} {A : Option Addr} {len cap : Nat} (hq : isIn q mp = true) (h : OwP g w q s xs (.slice A len cap)) (hn : n ≤ len) :
    Dst g w mp s A n cap (xs.take n) ∧ xs.length = len := by
  obtain ⟨fp, h1, h2, h3⟩ := h
  simp only [Ow] at h1
  rcases h1 with ⟨rfl, e, rfl⟩ | ⟨b, arr, e, cap', f, fr, e', k1, k2, k3, k4, k5, k6, rfl⟩
  · simp only [Value.slice.injEq] at e
    obtain ⟨rfl, rfl, rfl⟩ := e
    have : n = 0 := by omega
    subst this
    exact ⟨⟨by simp, by simp, by simp, .inl ⟨rfl, rfl, rfl⟩⟩, rfl⟩
  · simp only [Value.slice.injEq] at e'
    obtain ⟨rfl, rfl, rfl⟩ := e'
    obtain ⟨f', hs, hE⟩ := k6.take n
    refine ⟨⟨by simp; omega, by omega, k2, .inr ⟨q, b, arr, e, fr, f', rfl, hq, k3, k4, k5, hE, ?_, ?_⟩⟩, rfl⟩
    · exact h2.sublist (List.Sublist.cons_cons b hs)
    · intro b' hb'
      refine h3 b' ?_
      rcases List.mem_cons.1 hb' with rfl | hb'
      · simp
      · exact List.mem_cons_of_mem _ (hs.subset hb')

theorem app_core (hΘ : ThOk P Θ) {t t2 ty e : TypeId} {ti : TI} (ht : P.underlying t = some (.slice e)) (hti : Θ e = some ti) {x2 : TypeDesc} (ht2 : P.underlying t2 = some x2) (hx2 : ∀ k, x2 ≠ .int k)
    {mp : List (Pl × Pl)} {p : Pl} (hmp : ∀ q, isIn q mp = true → mlk mp q = p) {A : Option Addr} {n cap : Nat} {xs ys : List (List C)} {x : Value} {news : List Value} {f2 : List Nat}
    (D : Dst g w mp ti.sz A n cap xs) (S : Src P (fun b => g.ow b = .imm) w ti.sz x ys news f2) (hf2 : f2.Nodup) (hf2p : ∀ b ∈ f2, ∃ q, g.ow b = .pl q ∧ isIn q mp = true)
    (hdis : ∀ b ∈ f2, ∀ q b0, A = some b0 → g.ow b = .pl q → g.ow b0.block ≠ .pl q)
    (hlen : n + ys.length ≤ cap63) (hfit : (n + ys.length) * ti.bytes ≤ 140737488355328) (r : RS B g σ a w) :
    ∃ u w' g', (Builtin.append_ #[t, t2] ty #[.slice A n cap, x]).run P w = .ok u w' ∧ RS B g' (σ.kill (kfMv mp noP)) a w' ∧ OwP g' w' p ti.sz (xs ++ ys) u := by
  obtain ⟨inf, z, i1, i2, i3, i4, i5⟩ := (hΘ e ti hti).info
  have hz : z.cells.size = ti.sz := by rw [← Array.length_toList, i5]; exact (hΘ e ti hti).len
  by_cases hroom : n + ys.length ≤ cap
  · rcases D.own with ⟨rfl, rfl, rfl⟩ | ⟨q, b, arr, e', fr, f, rfl, hq, k3, k4, k5, k6, k7, k8⟩
    · -- nothing to nothing
      have hy : ys = [] := List.eq_nil_of_length_eq_zero (by omega)
      have hxs : xs = [] := List.eq_nil_of_length_eq_zero D.len
      subst hy; subst hxs
      have hrun := run_app_room (ty := ty) ht ht2 hx2 (run_sizeOf_of hΘ hti) (S.len w) (S.cells w rfl) hroom (base := none) (w' := w) rfl
      exact ⟨_, w, goG mp g w.heap.size p, hrun, RS.goes r (Nat.le_refl _) (fun _ _ _ => rfl) rfl rfl rfl (Nat.le_refl _), [], by simp [Ow], by simp, by simp⟩
    · -- in its own row
      have hbound : n * ti.sz + news.length ≤ arr.size := by
        rw [S.size, k5, ← Nat.add_mul]; exact Nat.mul_le_mul_right _ hroom
      have hfroz : ∀ j, j < news.length → ¬ (fr.1 ≤ n * ti.sz + j ∧ n * ti.sz + j < fr.2) := by
        intro j hj hh
        rcases k4 with k4 | k4 <;> omega
      have hst := run_storeRow (P := P) k3 news hbound hfroz S.one
      have hw1 := setCells_heap b news (n * ti.sz) w arr e' fr k3 hbound
      have hw2 := fun k hk => setCells_other b news (n * ti.sz) w k hk
      obtain ⟨hr1, hr2, hr3, hr4⟩ := setCells_rest b news (n * ti.sz) w
      revert hst hw1 hw2 hr1 hr2 hr3 hr4
      generalize w.setCells b (n * ti.sz) news = w'
      intro hst hw1 hw2 hr1 hr2 hr3 hr4
      have hrun := run_app_room (ty := ty) ht ht2 hx2 (run_sizeOf_of hΘ hti) (S.len w) (S.cells w rfl) hroom (base := some ⟨b, 0, none⟩) (w' := w') (by
        simp only [add_at (x := ⟨b, 0, none⟩) rfl]; simpa using hst)
      have hbq := k8 b (by simp)
      have hblt : b < w.heap.size := heap_lt (by rw [k3]; rfl)
      have hR := RS.goes (mp := mp) (p := p) (n := w.heap.size) r (Nat.le_refl _) (w' := w') (fun x hx hxq => hw2 x (by rintro rfl; have := hxq q hbq; rw [hq] at this; cases this)) hr1 hr2 hr3 (by omega)
      refine ⟨_, w', _, hrun, hR, b :: (f ++ f2), ?_, ?_, ?_⟩
      · simp only [Ow]
        refine .inr ⟨b, _, e', cap, f ++ f2, fr, ?_, ?_, D.mx, hw1, ?_, ?_, ?_, rfl⟩
        · rw [List.length_append, D.len]
        · rw [List.length_append, D.len]; exact hroom
        · have : (⟨spl arr.toList (n * ti.sz) news⟩ : Array Value).size = arr.size := by
            simpa using spl_len (l := arr.toList) (vs := news) (o := n * ti.sz) (by simpa using hbound)
          rw [this]; exact k4
        · have : (⟨spl arr.toList (n * ti.sz) news⟩ : Array Value).size = arr.size := by
            simpa using spl_len (l := arr.toList) (vs := news) (o := n * ti.sz) (by simpa using hbound)
          rw [this, k5]
        · have hmono : ∀ (zs : List (List C)) us ff, (∀ b' ∈ ff, b' ≠ b) → OwE (fun b => g.ow b = .imm) w ti.sz zs us ff → OwE (fun b => (goG mp g w.heap.size p).ow b = .imm) w' ti.sz zs us ff := by
            intro zs us ff hff hE
            refine OwE.mono (fun x hx hxs => ?_) ti.sz zs us ff (fun b' hb' => hw2 b' (hff b' hb')) hE
            have hlt := heap_lt hxs
            refine ⟨?_, hw2 x (by rintro rfl; rw [hbq] at hx; cases hx)⟩
            simp only [goG, show ¬ x = w.heap.size by omega, if_false]
            exact retag_imm.2 hx
          refine OwE.app ((hmono _ _ _ ?_ k6).congr ?_) ((hmono _ _ _ ?_ S.own).congr ?_)
          · intro b' hb' e
            subst e
            exact (List.nodup_cons.1 k7).1 hb'
          · simp only [D.len, spl]
            rw [List.append_assoc, List.take_append_of_le_length (by rw [List.length_take]; simp; omega), List.take_take, Nat.min_self]
          · intro b' hb' e
            subst e
            obtain ⟨q', hq', _⟩ := hf2p b' hb'
            exact hdis b' hb' q' ⟨b', 0, none⟩ rfl hq' hq'
          · simp only [D.len, spl]
            rw [List.append_assoc, List.drop_left' (by rw [List.length_take]; simp; omega), List.take_append_of_le_length (by rw [S.size]; exact Nat.le_refl _)]
      · rw [List.nodup_cons]
        have k7' := List.nodup_cons.1 k7
        refine ⟨?_, ?_⟩
        · intro hm
          rcases List.mem_append.1 hm with hm | hm
          · exact k7'.1 hm
          · obtain ⟨q', hq', _⟩ := hf2p b hm
            exact hdis b hm q' ⟨b, 0, none⟩ rfl hq' hq'
        · rw [List.nodup_append]
          refine ⟨k7'.2, hf2, fun x hx y hy e => ?_⟩
          subst e
          obtain ⟨q', hq', _⟩ := hf2p x hy
          have h9 := k8 x (by simp [hx])
          rw [h9] at hq'
          injection hq' with hq'
          subst hq'
          exact hdis x hy q ⟨b, 0, none⟩ rfl h9 hbq
      · have htag : ∀ b' q', b' < w.heap.size → g.ow b' = .pl q' → isIn q' mp = true → (goG mp g w.heap.size p).ow b' = .pl p := by
          intro b' q' hlt h1 h2
          simp only [goG, show ¬ b' = w.heap.size by omega, if_false]
          rw [retag_pl h1, hmp q' h2]
        intro b' hb'
        rcases List.mem_cons.1 hb' with rfl | hb'
        · exact htag _ q hblt hbq hq
        · rcases List.mem_append.1 hb' with hb' | hb'
          · exact htag _ q (heap_lt (OwE.exists_ _ _ _ _ k6 b' hb')) (k8 b' (by simp [hb'])) hq
          · obtain ⟨q', hq', hq''⟩ := hf2p b' hb'
            exact htag _ q' (heap_lt (OwE.exists_ _ _ _ _ S.own b' hb')) hq' hq''
  · -- in a new row
    have hold : ∃ olds f, (∀ w', w'.heap = w.heap → (Builtin.firstCells ti.sz n (.slice A n cap)).run P w' = .ok olds.toArray w') ∧ OwE (fun b => g.ow b = .imm) w ti.sz xs olds f ∧ olds.length = n * ti.sz ∧ f.Nodup ∧
        (∀ b ∈ f, ∃ q, g.ow b = .pl q ∧ isIn q mp = true) ∧ (∀ b ∈ f, ∀ b' ∈ f2, b ≠ b') := by
      rcases D.own with ⟨rfl, rfl, rfl⟩ | ⟨q, b, arr, e', fr, f, rfl, hq, k3, k4, k5, k6, k7, k8⟩
      · have hxs : xs = [] := List.eq_nil_of_length_eq_zero D.len
        subst hxs
        exact ⟨[], [], fun w' _ => by simp [Builtin.firstCells], by simp [OwE], by simp, by simp, by simp, by simp⟩
      · have hl := k6.len
        rw [D.len] at hl
        refine ⟨arr.toList.take (n * ti.sz), f, firstCells_run (ad := ⟨b, 0, none⟩) rfl k3 (by simpa using hl), k6.congr (by rw [D.len, List.take_take, Nat.min_self]), List.length_take_of_le hl, (List.nodup_cons.1 k7).2, fun b' hb' => ⟨q, k8 b' (by simp [hb']), hq⟩, ?_⟩
        rintro b' hb' _ hb2 rfl
        obtain ⟨q', hq', _⟩ := hf2p b' hb2
        have h9 := k8 b' (by simp [hb'])
        rw [h9] at hq'
        injection hq' with hq'
        subst hq'
        exact hdis b' hb2 q ⟨b, 0, none⟩ rfl h9 (k8 b (by simp))
    obtain ⟨olds, f, o1, o2, o3, o4, o5, o6⟩ := hold
    have hrun := run_app_grow (w := w) (ty := ty) ht ht2 hx2 i1 i4 (base := A) (sLen := n) (sCap := cap) (S.len w) (by rw [i2]; exact S.cells w.drew rfl) (by rw [i2]; exact o1 w.drew rfl) (by omega) hlen (by rw [i3]; exact hfit)
    have hcap := grownCap_ge w (n + ys.length) cap e
    have hcap2 := grownCap_le_maxLen w (n + ys.length) cap e (by unfold maxLen; unfold cap63 at hlen; omega)
    revert hrun hcap hcap2
    generalize grownCap w (n + ys.length) cap e = nc
    intro hrun hcap hcap2
    have hheap : ∀ ob : Obj, (w.drew.alloc ob).heap = w.heap.push ob := fun _ => rfl
    have hR := RS.goes (mp := mp) (p := p) (n := w.heap.size) r (Nat.le_refl _) (w' := w.drew.alloc (.cells (olds.toArray ++ news.toArray ++ Builtin.zeroCells z.cells (nc - (n + ys.length))) e))
      (fun x hx _ => by rw [hheap, Array.getElem?_push, if_neg (by omega)]) rfl rfl rfl (by rw [hheap]; simp)
    have hmono : ∀ (zs : List (List C)) us ff, OwE (fun b => g.ow b = .imm) w ti.sz zs us ff →
        OwE (fun b => (goG mp g w.heap.size p).ow b = .imm) (w.drew.alloc (.cells (olds.toArray ++ news.toArray ++ Builtin.zeroCells z.cells (nc - (n + ys.length))) e)) ti.sz zs us ff := by
      intro zs us ff hE
      refine OwE.mono (fun x hx hxs => ?_) ti.sz zs us ff (fun b' hb' => ?_) hE
      · have hlt := heap_lt hxs
        refine ⟨?_, by rw [hheap, Array.getElem?_push, if_neg (by omega)]⟩
        simp only [goG, show ¬ x = w.heap.size by omega, if_false]
        exact retag_imm.2 hx
      · have hlt := heap_lt (OwE.exists_ _ _ _ _ hE b' hb')
        rw [hheap, Array.getElem?_push, if_neg (by omega)]
    have hex1 : ∀ b' ∈ f, b' < w.heap.size := fun b' hb' => heap_lt (OwE.exists_ _ _ _ _ o2 b' hb')
    have hex2 : ∀ b' ∈ f2, b' < w.heap.size := fun b' hb' => heap_lt (OwE.exists_ _ _ _ _ S.own b' hb')
    refine ⟨_, _, _, hrun, hR, w.heap.size :: (f ++ f2), ?_, ?_, ?_⟩
    · simp only [Ow]
      refine .inr ⟨w.heap.size, _, e, nc, f ++ f2, (0, 0), ?_, ?_, ?_, by rw [hheap, Array.getElem?_push, if_pos rfl], .inl rfl, ?_, ?_, rfl⟩
      · rw [List.length_append, D.len]
      · rw [List.length_append, D.len]; exact hcap
      · unfold cap63; unfold maxLen at hcap2; omega
      · have e1 : (Builtin.zeroCells z.cells (nc - (n + ys.length))).size = (nc - (n + ys.length)) * ti.sz := by rw [size_zeroCells, hz]
        rw [Array.size_append, Array.size_append, e1]
        simp only [List.size_toArray, o3, S.size]
        rw [← Nat.add_mul, ← Nat.add_mul]
        congr 1
        omega
      · refine OwE.app ((hmono _ _ _ o2).congr ?_) ((hmono _ _ _ S.own).congr ?_)
        · simp only [D.len, ← o3]; simp
        · rw [D.len, ← o3]; simp [← S.size]
    · rw [List.nodup_cons]
      refine ⟨?_, ?_⟩
      · intro hm
        rcases List.mem_append.1 hm with hm | hm
        · have := hex1 _ hm; omega
        · have := hex2 _ hm; omega
      · rw [List.nodup_append]
        exact ⟨o4, hf2, fun x hx y hy => o6 x hx y hy⟩
    · intro b' hb'
      rcases List.mem_cons.1 hb' with rfl | hb'
      · simp [goG]
      · have hlt : b' < w.heap.size ∧ ∃ q, g.ow b' = .pl q ∧ isIn q mp = true := by
          rcases List.mem_append.1 hb' with hb' | hb'
          · exact ⟨hex1 _ hb', o5 _ hb'⟩
          · exact ⟨hex2 _ hb', hf2p _ hb'⟩
        obtain ⟨hlt, q', h1, h2⟩ := hlt
        simp only [goG, show ¬ b' = w.heap.size by omega, if_false]
        rw [retag_pl h1, hmp q' h2]
end
end Go.Proofs.YtfdmlccbfbiloaaGreatDoor.Vs
/- The calculus: append, lists written out, make, a text's bytes: as operations. -/
namespace Go.Proofs.YtfdmlccbfbiloaaGreatDoor.Vs
open Go
variable [Gl]
set_option linter.unusedSectionVars false
section
variable {P : Program} {B : Bs} {g : Gh} {σ : St} {a : Act} {w : World} {o : Oper} {d : Nat} {K : V → St → Prop} {Θ : Nat → Option TI}

/-- what is appended to: the list, how many cells an element, the place that is given up -/
def St.dst (σ : St) (v : V) : Option (Nat × List (List C) × List Pl) :=
  match v with
  | .val (.slice none 0 0) => some (0, [], [])
  | .hd q => match σ.plc q with | some (s, xs) => some (s, xs, [q]) | none => none
  | .pre q n => match σ.plc q with | some (s, xs) => some (s, xs.take n, [q]) | none => none
  | _ => none
/-- what is appended: moved (the place is given up) or copied -/
inductive SrcV where
  | mv (s : Nat) (ys : List (List C)) (q : Pl)
  | cp (s : Nat) (ys : List (List C))
  | tx (l : List UInt8)
def St.src (σ : St) (v : V) : Option SrcV :=
  match v with
  | .hd (.sl k i j) => match σ.plc (.sl k i j) with | some (s, xs) => some (.mv s xs (.sl k i j)) | none => none
  | .val (.string x) => some (.tx (sb x))
  | v => match σ.lst v with | some (_, _, s, ys) => some (.cp s ys) | none => none
def szOf (Θ : Nat → Option TI) (t : Nat) : Nat := match Θ t with | some i => i.sz | none => 0
def byOf (Θ : Nat → Option TI) (t : Nat) : Nat := match Θ t with | some i => i.bytes | none => 0
def mp1 (p : Pl) : List Pl → List (Pl × Pl)
  | [] => []
  | q :: r => (q, p) :: mp1 p r
def vappK (Θ : Nat → Option TI) (e : Nat) (σ : St) (d : Nat) (xs ys : List (List C)) (qs : List Pl) (K : V → St → Prop) : Prop :=
  vreq ((xs.length + ys.length) * (byOf Θ e + 1) ≤ 140737488355328) (vforget σ (kfMv (mp1 (.sl d 0 0) qs) noP) fun σ' => K (.own (szOf Θ e) (xs ++ ys)) σ')
def vapp (Θ : Nat → Option TI) (t t2 : Nat) (σ : St) (d : Nat) (s x : Operand) (K : V → St → Prop) : Prop :=
  bif (tk Θ t).isSl && szPos Θ (tk Θ t).el then (match σ.dst (σ.ev s), σ.src (σ.ev x) with
    | some (s1, xs, qs), some (.mv s2 ys q) => bif (tk Θ t2).isSl && (Nat.beq s1 (szOf Θ (tk Θ t).el) || qs.isEmpty) && Nat.beq s2 (szOf Θ (tk Θ t).el) && !(isIn q (mp1 q qs)) then
        vappK Θ (tk Θ t).el σ d xs ys (q :: qs) K else False
    | some (s1, xs, qs), some (.cp s2 ys) => bif (tk Θ t2).isSl && (Nat.beq s1 (szOf Θ (tk Θ t).el) || qs.isEmpty) && (Nat.beq s2 (szOf Θ (tk Θ t).el) || ys.isEmpty) then
        vreq (flatE ys) (vappK Θ (tk Θ t).el σ d xs ys qs K) else False
    | some (s1, xs, qs), some (.tx l) => bif (tk Θ t2).isStr && (Nat.beq s1 (szOf Θ (tk Θ t).el) || qs.isEmpty) && Nat.beq 1 (szOf Θ (tk Θ t).el) then
        vappK Θ (tk Θ t).el σ d xs (bytesC l) qs K else False
    | _, _ => False) else False

theorem mp1_in {p q : Pl} : ∀ {qs : List Pl}, isIn q (mp1 p qs) = true ↔ q ∈ qs
  | [] => by simp [mp1, isIn]
  | x :: r => by
    simp only [mp1, isIn, Bool.or_eq_true, mp1_in (qs := r), Pl.beq_iff, List.mem_cons]
    constructor
    · rintro (h | h); exact .inl h.symm; exact .inr h
    · rintro (h | h); exact .inl h.symm; exact .inr h
theorem mp1_lk {p q : Pl} : ∀ {qs : List Pl}, isIn q (mp1 p qs) = true → mlk (mp1 p qs) q = p
  | [], h => by cases h
  | x :: r, h => by
    simp only [mp1, mlk]
    cases hb : x.beq q with
    | true => rfl
    | false =>
      simp only [mp1, isIn, hb, Bool.false_or] at h
      exact mp1_lk h

theorem Rd.size0 {S : Bool → Nat → Prop} {k : Bool} {s s' : Nat} {u : Value} (h : Rd S w (.sl k s []) u) : Rd S w (.sl k s' []) u := by
  simp only [Rd] at h ⊢
  obtain ⟨A, cap, h1, h2, h3, h4⟩ := h
  exact ⟨A, cap, h1, h2, h3, .inl rfl⟩

theorem szOf_eq {e : Nat} {ti : TI} (h : Θ e = some ti) : szOf Θ e = ti.sz := by simp [szOf, h]
theorem byOf_eq {e : Nat} {ti : TI} (h : Θ e = some ti) : byOf Θ e = ti.bytes := by simp [byOf, h]

theorem St.dst_sound {v : V} {u : Value} {s : Nat} {xs : List (List C)} {qs : List Pl} {sz : Nat} {mp : List (Pl × Pl)} (r : RS B g σ a w) (hv : RT g a w d v u) (h : σ.dst v = some (s, xs, qs)) (hs : (Nat.beq s sz || qs.isEmpty) = true)
    (hq : ∀ q ∈ qs, isIn q mp = true) :
    ∃ A n cap, u = .slice A n cap ∧ Dst g w mp sz A n cap xs ∧ ∀ b0, A = some b0 → ∃ q ∈ qs, g.ow b0.block = .pl q := by
  have hs0 : ∀ q, qs = [q] → s = sz := by
    rintro q rfl
    simp only [List.isEmpty_cons, Bool.or_false] at hs
    exact Nat.eq_of_beq_eq_true hs
  have key : ∀ q s' zs, σ.plc q = some (s', zs) → isIn q mp = true → s' = sz → ∀ A n len cap, hdr g a w q = some (.slice A len cap) → n ≤ len →
      Dst g w mp sz A n cap (zs.take n) ∧ (zs.length = len) ∧ ∀ b0, A = some b0 → g.ow b0.block = .pl q := by
    intro q s' zs hp hin hss A n len cap hh hn
    subst hss
    obtain ⟨u', h1, h2⟩ := r.plc hp
    rw [hh] at h1
    simp only [Option.some.injEq] at h1
    subst h1
    have D := Dst.of hin h2 hn
    refine ⟨D.1, D.2, fun b0 hb0 => ?_⟩
    subst hb0
    obtain ⟨fp, h3, _, h5⟩ := h2
    simp only [Ow] at h3
    rcases h3 with ⟨_, e, _⟩ | ⟨b, arr, e, cap', f, fr, e', _, _, _, _, _, _, rfl⟩
    · simp at e
    · simp only [Value.slice.injEq, Option.some.injEq] at e'
      rw [e'.1]
      exact h5 b (by simp)
  unfold St.dst at h
  split at h
  · simp only [Option.some.injEq, Prod.mk.injEq] at h
    obtain ⟨_, rfl, rfl⟩ := h
    rw [RT.val] at hv
    exact ⟨none, 0, 0, hv.1, ⟨rfl, by simp, by simp, .inl ⟨rfl, rfl, rfl⟩⟩, by simp⟩
  · rename_i q
    cases hp : σ.plc q with
    | none => simp [hp] at h
    | some x =>
      obtain ⟨s', zs⟩ := x
      simp only [hp, Option.some.injEq, Prod.mk.injEq] at h
      obtain ⟨rfl, rfl, rfl⟩ := h
      simp only [RT, RG, RC] at hv
      obtain ⟨hh, A, len, cap, rfl⟩ := hv
      obtain ⟨D, hl, hb⟩ := key q _ _ hp (hq q (by simp)) (hs0 q rfl) A len len cap hh (Nat.le_refl _)
      rw [List.take_of_length_le (by omega)] at D
      exact ⟨A, len, cap, rfl, D, fun b0 h0 => ⟨q, by simp, hb b0 h0⟩⟩
  · rename_i q n
    cases hp : σ.plc q with
    | none => simp [hp] at h
    | some x =>
      obtain ⟨s', zs⟩ := x
      simp only [hp, Option.some.injEq, Prod.mk.injEq] at h
      obtain ⟨rfl, rfl, rfl⟩ := h
      simp only [RT, RG, RC] at hv
      obtain ⟨A, len, cap, hh, hn, rfl⟩ := hv
      obtain ⟨D, hl, hb⟩ := key q _ _ hp (hq q (by simp)) (hs0 q rfl) A n len cap hh hn
      exact ⟨A, n, cap, rfl, D, fun b0 h0 => ⟨q, by simp, hb b0 h0⟩⟩
  · cases h

theorem run_appOp {t t2 : TypeId} {s x : Operand} (ho : o.op = .call { callee := .builtin .append, args := #[s, x], argTypes := #[t, t2] }) {u : Value} {w' : World}
    (h : (Builtin.append_ #[t, t2] o.type #[a.eval s, a.eval x]).run P w = .ok u w') : (execOp a.eval o).run P w = .ok (.value u) w' := by
  simp [execOp, ho, resolve, invoke, builtin, h]

theorem vappK_sound (hΘ : ThOk P Θ) {t t2 : TypeId} {s x : Operand} (ho : o.op = .call { callee := .builtin .append, args := #[s, x], argTypes := #[t, t2] }) {e : Nat} (ht : P.underlying t = some (.slice e)) {ti : TI} (hti : Θ e = some ti)
    {x2 : TypeDesc} (ht2 : P.underlying t2 = some x2) (hx2 : ∀ k, x2 ≠ .int k) {qs : List Pl} {A : Option Addr} {n cap : Nat} {xs ys : List (List C)} {news : List Value} {f2 : List Nat} (hA : a.eval s = .slice A n cap)
    (D : Dst g w (mp1 (.sl d 0 0) qs) ti.sz A n cap xs) (S : Src P (fun b => g.ow b = .imm) w ti.sz (a.eval x) ys news f2) (hf2 : f2.Nodup) (hf2p : ∀ b ∈ f2, ∃ q, g.ow b = .pl q ∧ isIn q (mp1 (.sl d 0 0) qs) = true)
    (hdis : ∀ b ∈ f2, ∀ q b0, A = some b0 → g.ow b = .pl q → g.ow b0.block ≠ .pl q) (h : vappK Θ e σ d xs ys qs K) (r : RS B g σ a w) : Done P B o a w d K := by
  unfold vappK at h
  obtain ⟨h1, h2⟩ := vreq_elim h
  have h2 := vforget_eq (K := fun σ' => K (.own (szOf Θ e) (xs ++ ys)) σ') h2
  rw [byOf_eq hti, D.len] at h1
  have hb1 : (n + ys.length) * ti.bytes ≤ 140737488355328 := Nat.le_trans (Nat.mul_le_mul_left _ (Nat.le_succ _)) h1
  have hb2 : n + ys.length ≤ cap63 := by
    have : n + ys.length ≤ (n + ys.length) * (ti.bytes + 1) := Nat.le_mul_of_pos_right _ (by omega)
    unfold cap63; omega
  obtain ⟨u, w', g', k1, k2, k3⟩ := app_core (ty := o.type) hΘ ht hti ht2 hx2 (mp := mp1 (.sl d 0 0) qs) (p := .sl d 0 0) (fun q hq => mp1_lk hq) D S hf2 hf2p hdis hb2 hb1 r
  rw [szOf_eq hti] at h2
  exact ⟨u, w', g', _, _, run_appOp ho (by rw [hA]; exact k1), h2, k2, k3⟩

theorem vapp_sound (hΘ : ThOk P Θ) {t t2 : TypeId} {s x : Operand} (ho : o.op = .call { callee := .builtin .append, args := #[s, x], argTypes := #[t, t2] }) (h : vapp Θ t t2 σ d s x K) (r : RS B g σ a w) : Done P B o a w d K := by
  unfold vapp at h
  have hs := r.ev s d
  have hx := r.ev x d
  cases hc : (tk Θ t).isSl && szPos Θ (tk Θ t).el with
  | false => simp only [hc, cond_false] at h
  | true =>
    simp only [hc, cond_true] at h
    simp only [Bool.and_eq_true] at hc
    obtain ⟨hc1, hc2⟩ := hc
    have ht := isSl_und hΘ hc1
    obtain ⟨ti, hti⟩ : ∃ ti, Θ (tk Θ t).el = some ti := by
      unfold szPos at hc2
      cases e : Θ (tk Θ t).el with
      | none => rw [e] at hc2; cases hc2
      | some i => exact ⟨i, rfl⟩
    have hsz := szOf_eq hti
    split at h
    · rename_i s1 xs qs s2 ys q hd hsrc
      cases hk : (tk Θ t2).isSl && (Nat.beq s1 (szOf Θ (tk Θ t).el) || qs.isEmpty) && Nat.beq s2 (szOf Θ (tk Θ t).el) && !(isIn q (mp1 q qs)) with
      | false => simp only [hk, cond_false] at h
      | true =>
        simp only [hk, cond_true] at h
        simp only [Bool.and_eq_true, Bool.not_eq_true'] at hk
        obtain ⟨⟨⟨k1, k2⟩, k3⟩, k4⟩ := hk
        rw [hsz] at k2 k3
        have k3 := Nat.eq_of_beq_eq_true k3
        subst k3
        obtain ⟨A, n, cap, hA, D, hD⟩ := St.dst_sound (mp := mp1 (.sl d 0 0) (q :: qs)) r hs hd k2 (fun q' hq' => mp1_in.2 (List.mem_cons_of_mem _ hq'))
        -- the source is an own list of a slot
        have hq : ∃ k i j, q = .sl k i j ∧ σ.ev x = .hd q ∧ σ.plc q = some (ti.sz, ys) := by
          unfold St.src at hsrc
          split at hsrc
          · rename_i k i j ev
            split at hsrc
            · rename_i s' xs' hp
              simp only [Option.some.injEq, SrcV.mv.injEq] at hsrc
              obtain ⟨rfl, rfl, rfl⟩ := hsrc
              exact ⟨k, i, j, rfl, ev, hp⟩
            · cases hsrc
          · cases hsrc
          · split at hsrc <;> cases hsrc
        obtain ⟨k, i, j, rfl, ev, hp⟩ := hq
        rw [ev] at hx
        simp only [RT, RG, RC] at hx
        obtain ⟨u, h1, h2⟩ := r.plc hp
        rw [hx.1] at h1
        simp only [Option.some.injEq] at h1
        obtain ⟨fp, h3, h4, h5⟩ := h2
        rw [← h1] at h3
        obtain ⟨news, f2, S, hsub⟩ := Src.move (P := P) h3
        refine vappK_sound hΘ ho ht hti (isSl_und hΘ k1) (by simp) hA D S (h4.sublist hsub) (fun b hb => ⟨_, h5 b (hsub.subset hb), mp1_in.2 (by simp)⟩) ?_ h r
        intro b hb q' b0 hb0 hq' hq''
        obtain ⟨q2, hq2, hq3⟩ := hD b0 hb0
        rw [h5 b (hsub.subset hb)] at hq'
        injection hq' with hq'
        subst hq'
        rw [hq3] at hq''
        injection hq'' with hq''
        subst hq''
        have : isIn (.sl k i j) (mp1 (.sl k i j) qs) = true := mp1_in.2 hq2
        rw [k4] at this
        cases this
    · rename_i s1 xs qs s2 ys hd hsrc
      cases hk : (tk Θ t2).isSl && (Nat.beq s1 (szOf Θ (tk Θ t).el) || qs.isEmpty) && (Nat.beq s2 (szOf Θ (tk Θ t).el) || ys.isEmpty) with
      | false => simp only [hk, cond_false] at h
      | true =>
        simp only [hk, cond_true] at h
        simp only [Bool.and_eq_true] at hk
        obtain ⟨⟨k1, k2⟩, k3⟩ := hk
        rw [hsz] at k2 k3
        obtain ⟨hfl, h⟩ := vreq_elim h
        obtain ⟨A, n, cap, hA, D, hD⟩ := St.dst_sound (mp := mp1 (.sl d 0 0) qs) r hs hd k2 (fun q' hq' => mp1_in.2 hq')
        have hl : ∃ oo kk, σ.lst (σ.ev x) = some (oo, kk, s2, ys) := by
          unfold St.src at hsrc
          split at hsrc
          · split at hsrc <;> cases hsrc
          · cases hsrc
          · split at hsrc
            · rename_i oo kk s' ys' hl
              simp only [Option.some.injEq, SrcV.cp.injEq] at hsrc
              obtain ⟨rfl, rfl⟩ := hsrc
              exact ⟨oo, kk, hl⟩
            · cases hsrc
        obtain ⟨oo, kk, hl⟩ := hl
        have hrd := r.lst (RT.rc_of_lst hl hx) hl
        have hrd' : Rd (Sf g.ow oo) w (.sl kk ti.sz ys) (a.eval x) := by
          simp only [Bool.or_eq_true] at k3
          rcases k3 with k3 | k3
          · have := Nat.eq_of_beq_eq_true k3
            subst this; exact hrd
          · have : ys = [] := by simpa using k3
            subst this; exact hrd.size0
        obtain ⟨news, S⟩ := Src.copy (P := P) (I := fun b => g.ow b = .imm) hrd' hfl
        exact vappK_sound hΘ ho ht hti (isSl_und hΘ k1) (by simp) hA D S (by simp) (by simp) (by simp) h r
    · rename_i s1 xs qs l hd hsrc
      cases hk : (tk Θ t2).isStr && (Nat.beq s1 (szOf Θ (tk Θ t).el) || qs.isEmpty) && Nat.beq 1 (szOf Θ (tk Θ t).el) with
      | false => simp only [hk, cond_false] at h
      | true =>
        simp only [hk, cond_true] at h
        simp only [Bool.and_eq_true] at hk
        obtain ⟨⟨k1, k2⟩, k3⟩ := hk
        rw [hsz] at k2 k3
        have k3 := Nat.eq_of_beq_eq_true k3
        obtain ⟨A, n, cap, hA, D, hD⟩ := St.dst_sound (mp := mp1 (.sl d 0 0) qs) r hs hd k2 (fun q' hq' => mp1_in.2 hq')
        have hl : ∃ str, σ.ev x = .val (.string str) ∧ l = sb str := by
          unfold St.src at hsrc
          split at hsrc
          · split at hsrc <;> cases hsrc
          · rename_i str ev
            simp only [Option.some.injEq, SrcV.tx.injEq] at hsrc
            exact ⟨str, ev, hsrc.symm⟩
          · split at hsrc <;> cases hsrc
        obtain ⟨str, ev, rfl⟩ := hl
        rw [ev, RT.val] at hx
        have S := Src.text (P := P) (I := fun b => g.ow b = .imm) (w := w) (str := str)
        rw [← hx.1] at S
        rw [k3] at S
        exact vappK_sound hΘ ho ht hti (isStr_und hΘ k1) (by simp) hA D S (by simp) (by simp) (by simp) h r
    · exact h.elim
end
end Go.Proofs.YtfdmlccbfbiloaaGreatDoor.Vs
/- The calculus: lists that are made new: written out, make, a text's bytes. -/
namespace Go.Proofs.YtfdmlccbfbiloaaGreatDoor.Vs
open Go
variable [Gl]
set_option linter.unusedSectionVars false
section
variable {P : Program} {B : Bs} {g : Gh} {σ : St} {a : Act} {w : World} {o : Oper} {d : Nat} {K : V → St → Prop} {Θ : Nat → Option TI}

theorem new_own {mp : List (Pl × Pl)} {p : Pl} (hmp : ∀ q, isIn q mp = true → mlk mp q = p) {w' : World} {arr : Array Value} {e : TypeId} {fr : Nat × Nat} {s cap : Nat} {xs : List (List C)} {f : List Nat}
    (hE : OwE (fun b => g.ow b = .imm) w s xs arr.toList f) (hf : f.Nodup) (hft : ∀ b ∈ f, ∃ q, g.ow b = .pl q ∧ isIn q mp = true) (hl : xs.length ≤ cap) (hc : cap ≤ cap63) (hs : arr.size = cap * s) (hfr : fr.1 = fr.2 ∨ arr.size ≤ fr.1)
    (hnew : w'.heap[w.heap.size]? = some (.cells arr e fr)) (hold : ∀ b, b < w.heap.size → w'.heap[b]? = w.heap[b]?)
    (h1 : w'.os = w.os) (h2 : w'.tape = w.tape) (h3 : w'.output = w.output) (h4 : w.heap.size ≤ w'.heap.size) (r : RS B g σ a w) :
    RS B (goG mp g w.heap.size p) (σ.kill (kfMv mp noP)) a w' ∧ OwP (goG mp g w.heap.size p) w' p s xs (.slice (some ⟨w.heap.size, 0, none⟩) xs.length cap) := by
  have hex : ∀ b ∈ f, b < w.heap.size := fun b hb => heap_lt (OwE.exists_ _ _ _ _ hE b hb)
  refine ⟨RS.goes r (Nat.le_refl _) (fun b hb _ => hold b hb) h1 h2 h3 h4, w.heap.size :: f, ?_, ?_, ?_⟩
  · simp only [Ow]
    refine .inr ⟨w.heap.size, arr, e, cap, f, fr, rfl, hl, hc, hnew, hfr, hs, ?_, rfl⟩
    refine OwE.mono (fun x hx hxs => ?_) s xs _ f (fun b hb => hold b (hex b hb)) hE
    have hlt := heap_lt hxs
    refine ⟨?_, hold x hlt⟩
    simp only [goG, show ¬ x = w.heap.size by omega, if_false]
    exact retag_imm.2 hx
  · rw [List.nodup_cons]
    exact ⟨fun hm => by have := hex _ hm; omega, hf⟩
  · intro b hb
    rcases List.mem_cons.1 hb with rfl | hb
    · simp [goG]
    · obtain ⟨q, k1, k2⟩ := hft b hb
      have := hex b hb
      simp only [goG, show ¬ b = w.heap.size by omega, if_false]
      rw [retag_pl k1, hmp q k2]

/-! #### lists written out -/
def takeC (σ : St) : List V → Option (List C × List Pl)
  | [] => some ([], [])
  | v :: r => match takeC σ r with
    | none => none
    | some (cs, qs) => match v with
      | .val x => some (C.v x :: cs, qs)
      | .hd q => match σ.plc q with
        | some (s, xs) => bif isIn q (mp1 q qs) then none else some (C.sl true s xs :: cs, q :: qs)
        | none => none
      | _ => none
theorem takeC_sound (r : RS B g σ a w) : ∀ (vs : List V) (us : List Value) (cs : List C) (qs : List Pl), takeC σ vs = some (cs, qs) → us.length = vs.length →
    (∀ (i : Nat) v u, vs[i]? = some v → us[i]? = some u → ∃ q, RC g a w q v u) →
    cs.length = vs.length ∧ ∃ f, OwL (fun b => g.ow b = .imm) w cs us f ∧ f.Nodup ∧ ∀ b ∈ f, ∃ q ∈ qs, g.ow b = .pl q
  | [], us, cs, qs, h, hl, _ => by
    simp only [takeC, Option.some.injEq, Prod.mk.injEq] at h
    obtain ⟨rfl, rfl⟩ := h
    exact ⟨rfl, [], by simp [OwL], by simp, by simp⟩
  | v :: r', [], cs, qs, h, hl, _ => by simp at hl
  | v :: r', u :: us, cs, qs, h, hl, hr => by
    simp only [takeC] at h
    cases he : takeC σ r' with
    | none => rw [he] at h; cases h
    | some x =>
      obtain ⟨cs1, qs1⟩ := x
      rw [he] at h
      simp only at h
      obtain ⟨i1, f, i2, i3, i4⟩ := takeC_sound r r' us cs1 qs1 he (by simpa using hl) (fun i v u hv hu => hr (i + 1) v u (by simpa using hv) (by simpa using hu))
      obtain ⟨q0, hq0⟩ := hr 0 v u rfl rfl
      split at h
      · rename_i x
        simp only [Option.some.injEq, Prod.mk.injEq] at h
        obtain ⟨rfl, rfl⟩ := h
        refine ⟨by simp [i1], f, ?_, i3, i4⟩
        simp only [OwL]
        exact ⟨u, us, [], f, rfl, rfl, by simp only [Ow]; exact ⟨hq0, trivial⟩, i2⟩
      · rename_i q
        cases hp : σ.plc q with
        | none => rw [hp] at h; cases h
        | some x =>
          obtain ⟨s, xs⟩ := x
          rw [hp] at h
          simp only at h
          cases hin : isIn q (mp1 q qs1) with
          | true => simp only [hin, cond_true] at h; cases h
          | false =>
            simp only [hin, cond_false, Option.some.injEq, Prod.mk.injEq] at h
            obtain ⟨rfl, rfl⟩ := h
            simp only [RC] at hq0
            obtain ⟨u', h1, fp, h2, h3, h4⟩ := r.plc hp
            rw [hq0.1] at h1
            simp only [Option.some.injEq] at h1
            subst h1
            refine ⟨by simp [i1], fp ++ f, ?_, ?_, ?_⟩
            · simp only [OwL]
              exact ⟨u, us, fp, f, rfl, rfl, h2, i2⟩
            · rw [List.nodup_append]
              refine ⟨h3, i3, fun x hx y hy e => ?_⟩
              subst e
              obtain ⟨q', hq', hq''⟩ := i4 x hy
              rw [h4 x hx] at hq''
              injection hq'' with hq''
              subst hq''
              have : isIn q (mp1 q qs1) = true := mp1_in.2 hq'
              rw [hin] at this; cases this
            · intro b hb
              rcases List.mem_append.1 hb with hb | hb
              · exact ⟨q, by simp, h4 b hb⟩
              · obtain ⟨q', hq', hq''⟩ := i4 b hb
                exact ⟨q', by simp [hq'], hq''⟩
      · cases h
def chunk (s : Nat) : Nat → List C → List (List C)
  | 0, _ => []
  | n + 1, cs => cs.take s :: chunk s n (cs.drop s)
theorem OwL.split {I : Nat → Prop} : ∀ {cs : List C} {us : List Value} {f : List Nat} (n : Nat), OwL I w cs us f → ∃ f1 f2, f = f1 ++ f2 ∧ OwL I w (cs.take n) us f1 ∧ OwL I w (cs.drop n) (us.drop n) f2
  | [], us, f, n, h => by
    simp only [OwL] at h
    subst h
    exact ⟨[], [], rfl, by simp [OwL], by simp [OwL]⟩
  | c :: r, us, f, n, h => by
    cases n with
    | zero => exact ⟨[], f, rfl, by simp [OwL], by simpa using h⟩
    | succ n =>
      simp only [OwL] at h
      obtain ⟨u, us', f1, f2, rfl, rfl, h1, h2⟩ := h
      obtain ⟨g1, g2, rfl, h3, h4⟩ := OwL.split n h2
      exact ⟨f1 ++ g1, g2, by simp, by simp only [List.take_succ_cons, OwL]; exact ⟨u, us', f1, g1, rfl, rfl, h1, h3⟩, by simpa using h4⟩
theorem chunk_len (s : Nat) : ∀ (n : Nat) (cs : List C), (chunk s n cs).length = n
  | 0, _ => rfl
  | n + 1, cs => by simp [chunk, chunk_len s n]
theorem OwL.chunk {I : Nat → Prop} {s : Nat} : ∀ (n : Nat) {cs : List C} {us : List Value} {f : List Nat}, OwL I w cs us f → cs.length = n * s → OwE I w s (chunk s n cs) us f
  | 0, cs, us, f, h, hl => by
    have : cs = [] := List.eq_nil_of_length_eq_zero (by omega)
    subst this
    simp only [OwL] at h
    simp [Vs.chunk, OwE, h]
  | n + 1, cs, us, f, h, hl => by
    rw [Nat.succ_mul] at hl
    obtain ⟨f1, f2, rfl, h1, h2⟩ := OwL.split s h
    simp only [Vs.chunk, OwE]
    exact ⟨by rw [List.length_take]; omega, f1, f2, rfl, h1, OwL.chunk n h2 (by rw [List.length_drop]; omega)⟩

/-! the row that is filled -/
theorem foldl_set : ∀ (vs : List Value) (k off : Nat) (arr : Array Value), off + k + vs.length ≤ arr.size →
    ((vs.zipIdx k).foldl (fun (cs : Array Value) (p : Value × Nat) => cs.setIfInBounds (off + p.2) p.1) arr).toList = spl arr.toList (off + k) vs
  | [], k, off, arr, _ => by simp [spl]
  | v :: r, k, off, arr, h => by
    simp only [List.length_cons] at h
    simp only [List.zipIdx_cons, List.foldl_cons]
    rw [foldl_set r (k + 1) off _ (by simp; omega), Array.toList_setIfInBounds, ← Nat.add_assoc, spl_step (by simp; omega)]
theorem fill_row (s : Nat) : ∀ (vss : List (Value)) (n : Nat) (arr : Array Value), (∀ v ∈ vss, v.cells.size = s) → (n + vss.length) * s ≤ arr.size →
    ∃ arr', Instr.fill (fun i => some (i * s, s)) arr ((vss.zipIdx n).map fun p => (p.2, p.1)) = some arr' ∧ arr'.toList = arr.toList.take (n * s) ++ (vss.flatMap fun v => v.cells.toList) ++ arr.toList.drop ((n + vss.length) * s)
  | [], n, arr, _, _ => ⟨arr, rfl, by simp⟩
  | v :: r, n, arr, h1, h2 => by
    have hv := h1 v (by simp)
    have hb : n * s + v.cells.size ≤ arr.size := by
      simp only [List.length_cons] at h2
      have : (n + 1) * s ≤ (n + (r.length + 1)) * s := Nat.mul_le_mul_right _ (by omega)
      rw [Nat.succ_mul] at this
      omega
    have hf : (v.cells.zipIdx.foldl (fun (cs : Array Value) (p : Value × Nat) => cs.setIfInBounds (n * s + p.2) p.1) arr).toList = spl arr.toList (n * s) v.cells.toList := by
      have := foldl_set v.cells.toList 0 (n * s) arr (by simpa using hb)
      rw [← Array.foldl_toList, Array.toList_zipIdx]
      simpa using this
    revert hf
    generalize hg : (v.cells.zipIdx.foldl (fun (cs : Array Value) (p : Value × Nat) => cs.setIfInBounds (n * s + p.2) p.1) arr) = arr1
    intro hf
    have hsz : arr1.size = arr.size := by
      rw [← Array.length_toList, hf, spl_len (by simpa using hb), Array.length_toList]
    obtain ⟨arr', k1, k2⟩ := fill_row s r (n + 1) arr1 (fun v hv => h1 v (by simp [hv])) (by rw [hsz]; simp only [List.length_cons] at h2; rwa [show n + 1 + r.length = n + (r.length + 1) from by omega])
    refine ⟨arr', ?_, ?_⟩
    · simp only [List.zipIdx_cons, List.map_cons, Instr.fill]
      rw [if_neg (by simp [hv]; omega)]
      have : (v.cells.zipIdx.foldl (fun cs x => match x with | (c, j) => cs.setIfInBounds (n * s + j) c) arr) = arr1 := hg
      rw [this]; exact k1
    · rw [k2, hf]
      have e1 : n * s + v.cells.toList.length = (n + 1) * s := by rw [Array.length_toList, hv, Nat.succ_mul]
      have e2 : (List.take (n * s) arr.toList ++ v.cells.toList).length = (n + 1) * s := by
        rw [List.length_append, List.length_take, Array.length_toList, Array.length_toList, Nat.min_eq_left (by omega), hv, Nat.succ_mul]
      unfold spl
      rw [List.take_append_of_le_length (by rw [e2]; exact Nat.le_refl _), List.take_of_length_le (by rw [e2]; exact Nat.le_refl _), e1]
      rw [List.drop_append, List.drop_eq_nil_of_le (by rw [e2]; exact Nat.mul_le_mul_right _ (by omega)), e2, List.nil_append, List.drop_drop]
      have e3 : (n + 1) * s + ((n + 1 + r.length) * s - (n + 1) * s) = (n + (v :: r).length) * s := by
        rw [List.length_cons, show n + (r.length + 1) = n + 1 + r.length from by omega]
        have : (n + 1) * s ≤ (n + 1 + r.length) * s := Nat.mul_le_mul_right _ (by omega)
        omega
      rw [e3]
      simp [List.append_assoc]
end
end Go.Proofs.YtfdmlccbfbiloaaGreatDoor.Vs
/- The calculus: lists that are made new, as operations. -/
namespace Go.Proofs.YtfdmlccbfbiloaaGreatDoor.Vs
open Go
variable [Gl]
set_option linter.unusedSectionVars false
def opsOf (n : Nat) : List (Nat × Operand) → Option (List Operand)
  | [] => some []
  | (i, x) :: r => bif Nat.beq i n then (match opsOf (n + 1) r with | some l => some (x :: l) | none => none) else none
def evs (σ : St) : List Operand → List V
  | [] => []
  | x :: r => σ.ev x :: evs σ r
def flatV : List V → List V
  | [] => []
  | v :: r => vsing v ++ flatV r
def allSz (s : Nat) : List V → Bool
  | [] => true
  | v :: r => Nat.beq (vsing v).length s && ((vsing v).all live && allSz s r)
def vbuildS (Θ : Nat → Option TI) (t len : Nat) (parts : List (Nat × Operand)) (σ : St) (d : Nat) (K : V → St → Prop) : Prop :=
  bif (tk Θ t).isSl && szPos Θ (tk Θ t).el then (match opsOf 0 parts with
    | some xs => bif Nat.beq xs.length len && Nat.ble (len * szOf Θ (tk Θ t).el) 16777216 && allSz (szOf Θ (tk Θ t).el) (evs σ xs) then (match takeC σ (flatV (evs σ xs)) with
      | some (cs, qs) => vforget σ (kfMv (mp1 (.sl d 0 0) qs) noP) fun σ' => K (.own (szOf Θ (tk Θ t).el) (chunk (szOf Θ (tk Θ t).el) len cs)) σ'
      | none => False) else False
    | none => False) else False

section
variable {P : Program} {B : Bs} {g : Gh} {σ : St} {a : Act} {w : World} {o : Oper} {d : Nat} {K : V → St → Prop} {Θ : Nat → Option TI}

theorem opsOf_sound : ∀ (parts : List (Nat × Operand)) (n : Nat) (xs : List Operand), opsOf n parts = some xs → parts.map (fun p => (p.1, a.eval p.2)) = ((xs.map a.eval).zipIdx n).map fun p => (p.2, p.1)
  | [], n, xs, h => by simp only [opsOf, Option.some.injEq] at h; subst h; rfl
  | (i, x) :: r, n, xs, h => by
    simp only [opsOf] at h
    cases hb : Nat.beq i n with
    | false => simp only [hb, cond_false] at h; cases h
    | true =>
      simp only [hb, cond_true] at h
      have := Nat.eq_of_beq_eq_true hb
      subst this
      cases he : opsOf (i + 1) r with
      | none => rw [he] at h; cases h
      | some l =>
        rw [he] at h
        simp only [Option.some.injEq] at h
        subst h
        simp [opsOf_sound r (i + 1) l he]

theorem evs_cells (r : RS B g σ a w) (s : Nat) : ∀ (xs : List Operand), allSz s (evs σ xs) = true →
    ((xs.map a.eval).flatMap fun v => v.cells.toList).length = (flatV (evs σ xs)).length ∧ (∀ v ∈ xs.map a.eval, v.cells.size = s) ∧ (flatV (evs σ xs)).length = xs.length * s ∧
    (∀ v ∈ flatV (evs σ xs), live v = true) ∧ ∀ (i : Nat) v u, (flatV (evs σ xs))[i]? = some v → ((xs.map a.eval).flatMap fun v => v.cells.toList)[i]? = some u → ∃ q, RC g a w q v u
  | [], _ => ⟨rfl, by simp, by simp [evs, flatV], by simp [evs, flatV], fun i v u hv => by simp [evs, flatV] at hv⟩
  | x :: r', h => by
    simp only [evs, allSz, Bool.and_eq_true] at h
    obtain ⟨h1, h2, h3⟩ := h
    obtain ⟨i1, i2, i3, i4, i5⟩ := evs_cells r s r' h3
    obtain ⟨us, k1, k2, _, k3⟩ := (r.ev x 0).sing h2
    have hs : (vsing (σ.ev x)).length = s := Nat.eq_of_beq_eq_true h1
    simp only [evs, flatV, List.map_cons, List.flatMap_cons]
    rw [k2]
    refine ⟨by rw [List.length_append, List.length_append, k1, i1], ?_, by rw [List.length_append, i3, hs, List.length_cons, Nat.succ_mul, Nat.add_comm], ?_, ?_⟩
    · intro v hv
      rcases List.mem_cons.1 hv with rfl | hv
      · rw [← Array.length_toList, k2, k1, hs]
      · exact i2 v hv
    · intro v hv
      rcases List.mem_append.1 hv with hv | hv
      · rw [List.all_eq_true] at h2; exact h2 v hv
      · exact i4 v hv
    · intro i v u hv hu
      rcases Nat.lt_or_ge i us.length with hi | hi
      · rw [List.getElem?_append_left (by omega)] at hv
        rw [List.getElem?_append_left hi] at hu
        exact k3 i v u hv hu
      · rw [List.getElem?_append_right (by omega)] at hv
        rw [List.getElem?_append_right hi] at hu
        rw [← k1] at hv
        exact i5 _ v u hv hu

theorem run_buildS {t e len s : Nat} {parts : Array (Nat × Value)} {z : Value} {cells : Array Value} (ht : P.underlying t = some (.slice e)) (hs : (sizeOf e).run P w = .ok s w) (hz : (zeroValue e).run P w = .ok z w) (hle : len * s ≤ 16777216)
    (hf : ∀ zero : Array Value, ((len * s = 0 ∧ zero = #[]) ∨ (len * s ≠ 0 ∧ zero = z.cells)) → Instr.fill (fun i => some (i * s, s)) ((Array.range (len * s)).map (zero[· % zero.size]!)) parts.toList = some cells) :
    (Instr.buildSlice t len parts).run P w = .ok (.slice (some ⟨w.heap.size, 0, none⟩) len len) (w.alloc (.cells cells e)) := by
  have hle' : ¬ (len * s > 2 ^ 24) := by omega
  unfold Instr.buildSlice
  simp only [Sem.run_bind, run_und ht, Result.andThen_ok, hs, if_neg hle']
  by_cases h0 : len * s = 0
  · have := hf #[] (.inl ⟨h0, rfl⟩)
    simp only [if_pos h0, Sem.run_pure, Result.andThen_ok, this, Sem.run_bind, newRow, run_newObj_alloc]
  · have := hf z.cells (.inr ⟨h0, rfl⟩)
    simp only [if_neg h0, Sem.run_pure, Result.andThen_ok, this, Sem.run_bind, newRow, run_newObj_alloc, hz]

theorem vbuildS_sound (hΘ : ThOk P Θ) {t : TypeId} {len : Nat} {parts : Array (Nat × Operand)} (ho : o.op = .buildSlice t len parts) (h : vbuildS Θ t len parts.toList σ d K) (r : RS B g σ a w) : Done P B o a w d K := by
  unfold vbuildS at h
  cases hc : (tk Θ t).isSl && szPos Θ (tk Θ t).el with
  | false => simp only [hc, cond_false] at h
  | true =>
    simp only [hc, cond_true] at h
    simp only [Bool.and_eq_true] at hc
    obtain ⟨hc1, hc2⟩ := hc
    have ht := isSl_und hΘ hc1
    obtain ⟨ti, hti⟩ : ∃ ti, Θ (tk Θ t).el = some ti := by
      unfold szPos at hc2
      cases e : Θ (tk Θ t).el with
      | none => rw [e] at hc2; cases hc2
      | some i => exact ⟨i, rfl⟩
    have hsz := szOf_eq hti
    rw [hsz] at h
    obtain ⟨inf, z, i1, i2, i3, i4, i5⟩ := (hΘ _ ti hti).info
    have hz : z.cells.size = ti.sz := by rw [← Array.length_toList, i5]; exact (hΘ _ ti hti).len
    cases hop : opsOf 0 parts.toList with
    | none => simp only [hop] at h
    | some xs =>
      simp only [hop] at h
      cases hk : Nat.beq xs.length len && Nat.ble (len * ti.sz) 16777216 && allSz ti.sz (evs σ xs) with
      | false => simp only [hk, cond_false] at h
      | true =>
        simp only [hk, cond_true] at h
        simp only [Bool.and_eq_true] at hk
        obtain ⟨⟨k1, k2⟩, k3⟩ := hk
        have hlen : xs.length = len := Nat.eq_of_beq_eq_true k1
        have hle : len * ti.sz ≤ 16777216 := Nat.le_of_ble_eq_true k2
        obtain ⟨e1, e2, e3, e4, e5⟩ := evs_cells r ti.sz xs k3
        cases htk : takeC σ (flatV (evs σ xs)) with
        | none => simp only [htk] at h
        | some x =>
          obtain ⟨cs, qs⟩ := x
          simp only [htk] at h
          have h := vforget_eq (K := fun σ' => K (.own ti.sz (chunk ti.sz len cs)) σ') h
          obtain ⟨t1, f, t2, t3, t4⟩ := takeC_sound r _ _ cs qs htk e1 e5
          -- the row
          have hrow : ∀ zero : Array Value, ∃ arr', Instr.fill (fun i => some (i * ti.sz, ti.sz)) ((Array.range (len * ti.sz)).map (zero[· % zero.size]!)) (parts.map fun (i, x) => (i, a.eval x)).toList = some arr' ∧
              arr'.toList = (xs.map a.eval).flatMap fun v => v.cells.toList := by
            intro zero
            have hp : (parts.map fun (i, x) => (i, a.eval x)).toList = ((xs.map a.eval).zipIdx 0).map fun p => (p.2, p.1) := by
              rw [← opsOf_sound parts.toList 0 xs hop]
              simp
            obtain ⟨arr', f1, f2⟩ := fill_row ti.sz (xs.map a.eval) 0 ((Array.range (len * ti.sz)).map (zero[· % zero.size]!)) e2 (by simp [hlen])
            refine ⟨arr', by rw [hp]; exact f1, ?_⟩
            rw [f2]
            rw [List.drop_eq_nil_of_le (by simp [hlen])]
            simp
          obtain ⟨arr', _, f2⟩ := hrow #[]
          have hsize : arr'.size = len * ti.sz := by rw [← Array.length_toList, f2, e1, e3, hlen]
          have hrun : (execOp a.eval o).run P w = .ok (.value (.slice (some ⟨w.heap.size, 0, none⟩) len len)) (w.alloc (.cells arr' (tk Θ t).el)) := by
            have := run_buildS (P := P) (w := w) (parts := parts.map fun (i, x) => (i, a.eval x)) (cells := arr') ht (run_sizeOf_of hΘ hti) (z := z) (by simp [zeroValue, typeInfo, i1, i4]) hle (fun zero _ => by
              obtain ⟨arr2, g1, g2⟩ := hrow zero
              rw [g1]
              congr 1
              exact Array.ext' (g2.trans f2.symm))
            simp only [execOp, ho]
            rw [Sem.run_bind, this]
            rfl
          have hpos : 1 ≤ ti.sz := by simpa [szPos, hti, Nat.blt] using hc2
          have hcap : len ≤ cap63 := by
            have := Nat.le_mul_of_pos_right len hpos
            unfold cap63; omega
          have hE := OwL.chunk len t2 (by rw [t1, e3, hlen])
          rw [← f2] at hE
          have N := new_own (mp := mp1 (.sl d 0 0) qs) (p := .sl d 0 0) (fun q hq => mp1_lk hq) hE t3 (fun b hb => by obtain ⟨q, hq, hq'⟩ := t4 b hb; exact ⟨q, hq', mp1_in.2 hq⟩)
            (by rw [chunk_len]; exact Nat.le_refl _) hcap hsize (.inl rfl) (w' := w.alloc (.cells arr' (tk Θ t).el)) (fr := (0, 0)) (alloc_new _ _) (fun b hb => alloc_old _ _ _ hb) rfl rfl rfl (by show _ ≤ (w.heap.push _).size; simp) r
          rw [chunk_len] at N
          exact ⟨_, _, _, _, _, hrun, h, N.1, N.2⟩
end
end Go.Proofs.YtfdmlccbfbiloaaGreatDoor.Vs
/- The calculus: make; a text's bytes; functions as values; parts of tuples and structs. -/
namespace Go.Proofs.YtfdmlccbfbiloaaGreatDoor.Vs
open Go
variable [Gl]
set_option linter.unusedSectionVars false
@[irreducible] def vlenN (l c : Int) (by_ : Nat) (K : Nat → Prop) : Prop := ∃ n : Nat, l = n ∧ c = n ∧ n * (by_ + 1) ≤ 140737488355328 ∧ K n
theorem vlenN_intro {l c : Int} {b : Nat} {K : Nat → Prop} (n : Nat) (h1 : l = n) (h2 : c = n) (h3 : n * (b + 1) ≤ 140737488355328) (k : K n) : vlenN l c b K := by unfold vlenN; exact ⟨n, h1, h2, h3, k⟩
theorem vlenN_elim {l c : Int} {b : Nat} {K : Nat → Prop} (h : vlenN l c b K) : ∃ n : Nat, l = n ∧ c = n ∧ n * (b + 1) ≤ 140737488355328 ∧ K n := by unfold vlenN at h; exact h
def zeroC (Θ : Nat → Option TI) (e : Nat) : List C := match Θ e with | some i => i.zero.map C.v | none => []
def vmakeS (Θ : Nat → Option TI) (t : Nat) (l c : Operand) (σ : St) (K : V → St → Prop) : Prop :=
  bif (tk Θ t).isSl && szPos Θ (tk Θ t).el then (match σ.ev l, σ.ev c with
    | .val (.int _ x), .val (.int _ y) => vlenN x y (byOf Θ (tk Θ t).el) fun n => K (.own (szOf Θ (tk Θ t).el) (List.replicate n (zeroC Θ (tk Θ t).el))) σ
    | _, _ => False) else False
/-- []byte(s) -/
def vbyt (Θ : Nat → Option TI) (src dst : Nat) (σ : St) (x : Operand) (K : V → St → Prop) : Prop :=
  match σ.ev x with
  | .val (.string s) => bif (tk Θ src).isStr && (tk Θ dst).isSl && (tk Θ (tk Θ dst).el).isU8 then vreq ((sb s).length ≤ 140737488355328) (K (.own 1 (bytesC (sb s))) σ) else False
  | _ => False
def vfun (fn : Fn) (first caps : List Operand) (σ : St) (K : V → St → Prop) : Prop :=
  match fn, first with
  | .func f, [] => match caps with
    | [] => K (.val (.func (.func f) #[] #[])) σ
    | _ => bif (evs σ caps).all (fun v => match v with | .val _ | .ptr _ _ => true | _ => false) then K (.cl f (evs σ caps)) σ else False
  | _, _ => False
def mvL (p q : Nat → Pl) : Nat → List V → List (Pl × Pl)
  | _, [] => []
  | j, .own _ _ :: r => (p j, q j) :: mvL p q (j + 1) r
  | j, _ :: r => mvL p q (j + 1) r
def V.movable : V → Bool
  | .tup _ | .mu _ _ _ => false
  | .agg vs => vs.all fun v => match v with | .mu _ _ _ | .agg _ | .tup _ => false | _ => true
  | _ => true
/-- a value goes from part i of slot k to slot d -/
def vmvS (σ : St) (k i : Nat) (v : V) (d : Nat) (K : V → St → Prop) : Prop :=
  bif v.movable && cleanL (kfMv (mvL (.sl k i) (.sl d 0) 0 (vsing v)) noP) (vsing v) then vforget σ (kfMv (mvL (.sl k i) (.sl d 0) 0 (vsing v)) noP) fun σ' => K v σ' else False
def vextr (σ : St) (x : Operand) (i d : Nat) (K : V → St → Prop) : Prop :=
  match x with
  | .tmp k => match σ.get k with
    | .tup vs => match vs[i]? with
      | some v => vmvS σ k i v d K
      | none => False
    | _ => False
  | _ => False
def hasOwn : V → Bool
  | .own _ _ => true
  | .agg vs => vs.any isOwn
  | _ => false
def vassign (σ : St) (x : Operand) (d : Nat) (K : V → St → Prop) : Prop :=
  match x with
  | .tmp k => (match σ.get k with
    | .hd (.sl k' i 0) => (match σ.get k' with
      | .tup vs => (match vs[i]? with
        | some (.own s xs) => vmvS σ k' i (.own s xs) d K
        | _ => K (σ.ev x) σ)
      | _ => K (σ.ev x) σ)
    | v => bif hasOwn v then vmvS σ k 0 v d K else K (σ.ev x) σ)
  | x => K (σ.ev x) σ
/-- a field of a struct that is a value -/
def vfield (Θ : Nat → Option TI) (t : Nat) (σ : St) (x : Operand) (j : Nat) (K : V → St → Prop) : Prop :=
  match (tk Θ t).fld j with
  | some (off, ft) => match Θ ft with
    | some ti => match σ.ev x with
      | .agg vs => bif vs.all V.free1 then vcells ti ((vs.drop off).take ti.sz) fun v => K v σ else False
      | _ => False
    | none => False
  | none => False

section
variable {P : Program} {B : Bs} {g : Gh} {σ : St} {a : Act} {w : World} {o : Oper} {d : Nat} {K : V → St → Prop} {Θ : Nat → Option TI}

theorem OwL.flatOf {I : Nat → Prop} : ∀ {c : List C} {us : List Value}, (∀ (j : Nat) x, c[j]? = some x → ∃ y, x = C.v y ∧ us[j]? = some y ∧ y.oneCell' = true) → OwL I w c us []
  | [], us, _ => by simp [OwL]
  | x :: r, us, h => by
    obtain ⟨y, rfl, h2, h3⟩ := h 0 x rfl
    cases us with
    | nil => simp at h2
    | cons u us =>
      simp only [List.getElem?_cons_zero, Option.some.injEq] at h2
      subst h2
      simp only [OwL]
      exact ⟨u, us, [], [], rfl, rfl, by simp only [Ow]; exact ⟨⟨trivial, h3⟩, trivial⟩, OwL.flatOf (fun j x hx => by simpa using h (j + 1) x (by simpa using hx))⟩
theorem OwE.flatOf {I : Nat → Prop} {s : Nat} : ∀ {xs : List (List C)} {us : List Value}, (∀ (i : Nat) c, xs[i]? = some c → c.length = s ∧ ∀ (j : Nat) x, c[j]? = some x → ∃ y, x = C.v y ∧ us[i * s + j]? = some y ∧ y.oneCell' = true) → OwE I w s xs us []
  | [], us, _ => by simp [OwE]
  | c :: r, us, h => by
    obtain ⟨h1, h2⟩ := h 0 c rfl
    simp only [OwE]
    refine ⟨h1, [], [], rfl, OwL.flatOf (fun j x hx => by simpa using h2 j x hx), OwE.flatOf (fun i c' hc => ?_)⟩
    obtain ⟨h3, h4⟩ := h (i + 1) c' (by simpa using hc)
    refine ⟨h3, fun j x hx => ?_⟩
    obtain ⟨y, k1, k2, k3⟩ := h4 j x hx
    refine ⟨y, k1, ?_, k3⟩
    rw [List.getElem?_drop, ← k2]
    congr 1
    rw [Nat.succ_mul]; omega

theorem vmakeS_sound (hΘ : ThOk P Θ) {t : TypeId} {l c : Operand} (ho : o.op = .makeSlice t l c) (h : vmakeS Θ t l c σ K) (r : RS B g σ a w) : Done P B o a w d K := by
  unfold vmakeS at h
  have hl := r.ev l d
  have hc := r.ev c d
  cases hk : (tk Θ t).isSl && szPos Θ (tk Θ t).el with
  | false => simp only [hk, cond_false] at h
  | true =>
    simp only [hk, cond_true] at h
    simp only [Bool.and_eq_true] at hk
    obtain ⟨hc1, hc2⟩ := hk
    have ht := isSl_und hΘ hc1
    obtain ⟨ti, hti⟩ : ∃ ti, Θ (tk Θ t).el = some ti := by
      unfold szPos at hc2
      cases e : Θ (tk Θ t).el with
      | none => rw [e] at hc2; cases hc2
      | some i => exact ⟨i, rfl⟩
    have ok := hΘ _ ti hti
    obtain ⟨inf, z, i1, i2, i3, i4, i5⟩ := ok.info
    have hzl : z.cells.size = ti.sz := by rw [← Array.length_toList, i5]; exact ok.len
    split at h
    · rename_i k1 x k2 y el ec
      rw [el, RT.val] at hl
      rw [ec, RT.val] at hc
      obtain ⟨n, rfl, rfl, hb, hK⟩ := vlenN_elim h
      rw [szOf_eq hti] at hK
      rw [byOf_eq hti] at hb
      have hn : n ≤ 140737488355328 := Nat.le_trans (Nat.le_mul_of_pos_right _ (by omega)) hb
      have hb' : inf.bytes * n ≤ 281474976710656 := by
        rw [i3, Nat.mul_comm]
        have : n * ti.bytes ≤ n * (ti.bytes + 1) := Nat.mul_le_mul_left _ (Nat.le_succ _)
        omega
      obtain ⟨w', hrun, hown, hgr⟩ := run_make_full (P := P) w 0 t _ inf z inf.size ht i1 i4 rfl k1 k2 n hb' (by unfold maxLen; omega) (Nat.zero_le _)
      -- the row
      have hrow : ∃ cur, w'.heap[w.heap.size]? = some (.cells cur (tk Θ t).el (0, 0)) ∧ cur.size = n * ti.sz ∧ cur.toList = (madeCells z.cells (n * ti.sz)).toList := by
        obtain ⟨_, h2⟩ := hown
        rcases h2 with ⟨h2, _⟩ | ⟨g2, cap, cur, e1, _, e2, e3, e4, e5, e6⟩
        · simp at h2
        · simp only [Value.slice.injEq, Option.some.injEq, Addr.mk.injEq] at e1
          obtain ⟨⟨rfl, _⟩, _, rfl⟩ := e1
          rw [i2] at e5 e6
          refine ⟨cur, e2, e5, ?_⟩
          rw [← e6, List.take_of_length_le (by rw [Array.length_toList, e5]; exact Nat.le_refl _)]
      obtain ⟨cur, w1, w2, w3⟩ := hrow
      have hE : OwE (fun b => g.ow b = .imm) w ti.sz (List.replicate n (zeroC Θ (tk Θ t).el)) cur.toList [] := by
        refine OwE.flatOf (fun i c hc => ?_)
        rw [List.getElem?_replicate] at hc
        split at hc
        · rename_i hin
          simp only [Option.some.injEq] at hc
          subst hc
          have hz : zeroC Θ (tk Θ t).el = ti.zero.map C.v := by simp [zeroC, hti]
          rw [hz]
          refine ⟨by rw [List.length_map]; exact ok.len, fun j x hx => ?_⟩
          rw [List.getElem?_map] at hx
          cases hj : ti.zero[j]? with
          | none => rw [hj] at hx; cases hx
          | some y =>
            rw [hj] at hx
            simp only [Option.map_some, Option.some.injEq] at hx
            subst hx
            have hjl : j < ti.sz := by rw [← ok.len]; exact (List.getElem?_eq_some_iff.1 hj).1
            refine ⟨y, rfl, ?_, by have := ok.one; rw [List.all_eq_true] at this; exact this y (List.mem_of_getElem? hj)⟩
            have hlt : i * ti.sz + j < n * ti.sz := by
              have : (i + 1) * ti.sz ≤ n * ti.sz := Nat.mul_le_mul_right _ (by omega)
              rw [Nat.succ_mul] at this; omega
            have hmod : (i * ti.sz + j) % ti.sz = j := by rw [Nat.add_comm, Nat.add_mul_mod_self_right, Nat.mod_eq_of_lt hjl]
            rw [w3]
            have hzj : z.cells[j]? = some y := by rw [← hj, ← i5]; simp
            have e9 : z.cells[j]! = y := by
              have hjs : j < z.cells.size := by omega
              rw [getElem!_pos z.cells j hjs]
              have := Array.getElem?_eq_getElem hjs
              rw [hzj] at this
              exact (Option.some.inj this).symm
            simp [madeCells, hlt, hzl, hmod, e9]
        · cases hc
      have N := new_own (mp := []) (p := .sl d 0 0) (by intro q hq; cases hq) hE (by simp) (by simp) (cap := n) (by simp) (by unfold cap63; omega) w2 (.inl rfl) (w' := w') (fr := (0, 0)) w1
        (fun b hb => hgr.block b hb (by simp)) hgr.os hgr.tape hgr.output hgr.size r
      have e0 : kfMv [] noP = kf0 := rfl
      rw [e0, kill_no] at N
      simp only [List.length_replicate] at N
      refine ⟨_, w', _, σ, _, ?_, hK, N.1, N.2⟩
      simp only [execOp, ho, hl.1, hc.1]
      rw [Sem.run_bind, hrun]
      rfl
    · exact h.elim

theorem vbyt_sound (hΘ : ThOk P Θ) {src dst : TypeId} {x : Operand} (ho : o.op = .convert src dst x) (h : vbyt Θ src dst σ x K) (r : RS B g σ a w) : Done P B o a w d K := by
  unfold vbyt at h
  have hx := r.ev x d
  split at h
  · rename_i s e
    rw [e, RT.val] at hx
    cases hk : (tk Θ src).isStr && (tk Θ dst).isSl && (tk Θ (tk Θ dst).el).isU8 with
    | false => simp only [hk, cond_false] at h
    | true =>
      simp only [hk, cond_true] at h
      simp only [Bool.and_eq_true] at hk
      obtain ⟨⟨k1, k2⟩, k3⟩ := hk
      obtain ⟨hb, hK⟩ := vreq_elim h
      have hrun := Lib.run_convert_string_bytes (P := P) w src dst (tk Θ dst).el s (isStr_und hΘ k1) (isSl_und hΘ k2) (isU8_und hΘ k3)
      have hcap := grownCap_ge w s.size 0 (tk Θ dst).el
      have hcap2 := grownCap_le_maxLen w s.size 0 (tk Θ dst).el (by unfold maxLen; rw [size_sb]; omega)
      have hnew := Lib.bytesWorld_at_new w (tk Θ dst).el s
      have hsize : (Lib.bytesCells w (tk Θ dst).el s).size = grownCap w s.size 0 (tk Θ dst).el * 1 := by
        simp [Lib.bytesCells]
        have : s.data.size = s.size := rfl
        omega
      have hE : OwE (fun b => g.ow b = .imm) w 1 (bytesC (sb s)) (Lib.bytesCells w (tk Θ dst).el s).toList [] := by
        refine (OwE.congr (Src.text (P := P) (I := fun b => g.ow b = .imm) (w := w) (str := s)).own ?_)
        simp [Lib.bytesCells, bytesC, sb]
        exact List.take_of_length_le (by simp)
      have N := new_own (mp := []) (p := .sl d 0 0) (by intro q hq; cases hq) hE (by simp) (by simp) (cap := grownCap w s.size 0 (tk Θ dst).el) (by simp only [bytesC, List.length_map, ← size_sb]; exact hcap) (by unfold cap63; unfold maxLen at hcap2; omega) hsize
        (.inr (Nat.le_refl _)) (w' := Lib.bytesWorld w (tk Θ dst).el s) hnew (fun b hb => Lib.bytesWorld_at_old _ _ _ _ hb) rfl rfl rfl (by rw [Lib.bytesWorld_size]; omega) r
      have e0 : kfMv [] noP = kf0 := rfl
      rw [e0, kill_no] at N
      refine ⟨_, _, _, σ, _, ?_, hK, N.1, N.2⟩
      simp only [execOp, ho, hx.1]
      rw [Sem.run_bind, hrun]
      simp [bytesC, size_sb]
  · exact h.elim

theorem vfun_sound {fn : Fn} {first caps : Array Operand} (ho : o.op = .makeFunc fn first caps) (h : vfun fn first.toList caps.toList σ K) (r : RS B g σ a w) : DoneQ P g σ o a w d K := by
  unfold vfun at h
  split at h
  · rename_i f hf
    have hf' : first = #[] := by apply Array.ext'; simpa using hf
    subst hf'
    split at h
    · rename_i hcp
      have hc' : caps = #[] := by apply Array.ext'; simpa using hcp
      subst hc'
      exact Done.val (fun w' _ => by simp [execOp, ho, Instr.makeFunc]) h r rfl
    · cases hall : (evs σ caps.toList).all (fun v => match v with | .val _ | .ptr _ _ => true | _ => false) with
      | false => simp only [hall, cond_false] at h
      | true =>
        simp only [hall, cond_true] at h
        refine Done.same (u := .func (.func f) #[] (caps.map a.eval)) (fun w' _ => by simp [execOp, ho, Instr.makeFunc]) h r ⟨(caps.map a.eval).toList, by rw [Array.toArray_toList], ?_, ?_⟩
        · have : ∀ l : List Operand, (evs σ l).length = l.length := by
            intro l; induction l with
            | nil => rfl
            | cons x r ih => simp [evs, ih]
          simp [this]
        · have key : ∀ (l : List Operand), (evs σ l).all (fun v => match v with | .val _ | .ptr _ _ => true | _ => false) = true → ∀ (j : Nat) v x, (evs σ l)[j]? = some v → (l.map a.eval)[j]? = some x → RK g w v x := by
            intro l
            induction l with
            | nil => intro _ j v x hv; simp [evs] at hv
            | cons y l ih =>
              intro hl j v x hv hx
              simp only [evs, List.all_cons, Bool.and_eq_true] at hl
              cases j with
              | succ j => exact ih hl.2 j v x (by simpa [evs] using hv) (by simpa using hx)
              | zero =>
                simp only [evs, List.getElem?_cons_zero, Option.some.injEq, List.map_cons] at hv hx
                subst hv; subst hx
                have hy := r.ev y 0
                have h1 := hl.1
                revert hy h1
                cases σ.ev y <;> intro hy h1 <;> first | (cases h1; done) | exact hy
          intro j v x hv hx
          exact key caps.toList hall j v x hv (by simpa using hx)
  · exact h.elim

theorem mvL_in {p q : Nat → Pl} (hp : ∀ i j, p i = p j → i = j) : ∀ (vs : List V) (j i : Nat) {s : Nat} {xs : List (List C)}, vs[i]? = some (.own s xs) → isIn (p (j + i)) (mvL p q j vs) = true ∧ mlk (mvL p q j vs) (p (j + i)) = q (j + i)
  | [], j, i, s, xs, h => by simp at h
  | v :: r, j, i, s, xs, h => by
    cases i with
    | zero =>
      simp only [List.getElem?_cons_zero, Option.some.injEq] at h
      subst h
      have hb : (p j).beq (p j) = true := Pl.beq_iff.2 rfl
      simp [mvL, isIn, mlk, hb]
    | succ i =>
      obtain ⟨h1, h2⟩ := mvL_in hp r (j + 1) i (by simpa using h)
      rw [show j + 1 + i = j + (i + 1) from by omega] at h1 h2
      cases v with
      | own s' xs' =>
        have hne : (p j).beq (p (j + (i + 1))) = false := by
          cases hb : (p j).beq (p (j + (i + 1))) with
          | false => rfl
          | true => have := hp _ _ (Pl.beq_iff.1 hb); omega
        simp only [mvL, isIn, mlk, hne, Bool.false_or, cond_false]
        exact ⟨h1, h2⟩
      | _ => simp only [mvL]; exact ⟨h1, h2⟩

theorem vmvS_sound {k i : Nat} {v : V} {u : Value} (h : vmvS σ k i v d K) (r : RS B g σ a w) (hv : RG g a w k i v u) : ∃ g' σ', K v σ' ∧ RS B g' σ' a w ∧ RT g' a w d v u := by
  unfold vmvS at h
  cases hc : v.movable && cleanL (kfMv (mvL (.sl k i) (.sl d 0) 0 (vsing v)) noP) (vsing v) with
  | false => simp only [hc, cond_false] at h
  | true =>
    simp only [hc, cond_true] at h
    simp only [Bool.and_eq_true] at hc
    obtain ⟨hm, hcl⟩ := hc
    have h := vforget_eq (K := fun σ' => K v σ') h
    have hR := RS.goes (mp := mvL (.sl k i) (.sl d 0) 0 (vsing v)) (p := .sl d 0 0) r (Nat.le_refl _) (w' := w) (fun _ _ _ => rfl) rfl rfl rfl (Nat.le_refl _)
    refine ⟨_, _, h, hR, ?_⟩
    have T : Turns (kfMv (mvL (.sl k i) (.sl d 0) 0 (vsing v)) noP) (fun _ => false) g a w (goG (mvL (.sl k i) (.sl d 0) 0 (vsing v)) g w.heap.size (.sl d 0 0)) a w := {
      blk := by
        intro x hx ht
        have hlt := heap_lt hx
        refine ⟨?_, rfl⟩
        simp only [goG, show ¬ x = w.heap.size by omega, if_false]
        rcases ht with ht | ht | ⟨q, hq, ht⟩
        · rw [ht]; exact retag_imm.2 ht
        · rw [ht]; exact retag_bor.2 ht
        · simp only [kfMv, noP, Bool.or_false] at hq
          rw [retag_pl ht, ht, mlk_out hq]
      box := by
        intro x c hx _ _ ht
        have hlt := heap_lt hx
        refine ⟨?_, rfl⟩
        simp only [goG, show ¬ x = w.heap.size by omega, if_false]
        rw [ht]; exact retag_bx.2 ht
      hdr := by
        intro q x hq hx
        cases q with
        | sl k i j => exact hx
        | bx b j =>
          simp only [hdr] at hx ⊢
          split at hx
          · rename_i ht
            have hex : (w.heap[(g.ad b).1]?).isSome = true := by
              cases e : w.heap[(g.ad b).1]? with
              | none => simp only [World.cell?, e] at hx; cases hx
              | some _ => rfl
            have hlt := heap_lt hex
            have e1 : (goG (mvL (.sl k i) (.sl d 0) 0 (vsing v)) g w.heap.size (.sl d 0 0)).ad b = g.ad b := rfl
            rw [e1, if_pos]
            · exact hx
            · simp only [goG, show ¬ (g.ad b).1 = w.heap.size by omega, if_false]
              exact retag_bx.2 ht
          · cases hx
      ad := fun _ _ => rfl }
    have cell : ∀ (j : Nat) v' u', (vsing v)[j]? = some v' → (match v' with | .mu _ _ _ | .agg _ | .tup _ => false | _ => true) = true → RC g a w (.sl k i j) v' u' →
        RC (goG (mvL (.sl k i) (.sl d 0) 0 (vsing v)) g w.heap.size (.sl d 0 0)) a w (.sl d 0 j) v' u' := by
      intro j v' u' hv' hmv hrc
      by_cases hown : ∃ s xs, v' = .own s xs
      · obtain ⟨s, xs, rfl⟩ := hown
        obtain ⟨h1, h2⟩ := mvL_in (p := .sl k i) (q := .sl d 0) (fun a b e => by injection e) (vsing v) 0 j hv'
        rw [Nat.zero_add] at h1 h2
        obtain ⟨fp, z1, z2, z3⟩ := hrc
        have hex := Ow.exists_ _ _ _ z1
        refine ⟨fp, Ow.mono (fun b hb hx => ?_) _ _ fp (fun _ _ => rfl) z1, z2, fun b hb => ?_⟩
        · have := heap_lt hx
          refine ⟨?_, rfl⟩
          simp only [goG, show ¬ b = w.heap.size by omega, if_false]
          exact retag_imm.2 hb
        · have := heap_lt (hex b hb)
          simp only [goG, show ¬ b = w.heap.size by omega, if_false]
          rw [retag_pl (z3 b hb), h2]
      · have hfree : v'.free1 = true := by
          cases v' <;> first | rfl | (exfalso; exact hown ⟨_, _, rfl⟩) | (cases hmv)
        have := RC.kill T (RC.at_ (q' := .sl d 0 j) hfree hrc)
        rwa [lean_free hfree (cleanL_get hcl j v' hv')] at this
    cases v with
    | agg vs =>
      simp only [RG] at hv
      obtain ⟨us, rfl, h1, h2⟩ := hv
      refine ⟨us, rfl, h1, fun j v' x hv' hx => ?_⟩
      refine cell j v' x hv' ?_ (h2 j v' x hv' hx)
      simp only [V.movable, List.all_eq_true] at hm
      exact hm v' (List.mem_of_getElem? hv')
    | tup vs => cases hm
    | mu _ _ _ => cases hm
    | _ =>
      simp only [RG] at hv
      exact cell 0 _ u rfl rfl hv

theorem vextr_sound {x : Operand} {i : Nat} (ho : o.op = .extract x i) (h : vextr σ x i d K) (r : RS B g σ a w) : Done P B o a w d K := by
  unfold vextr at h
  split at h
  · rename_i k
    split at h
    · rename_i vs e
      split at h
      · rename_i v hv
        have hk := r.2.2.2.1 k
        rw [e] at hk
        simp only [RT] at hk
        obtain ⟨us, hu, h1, h2⟩ := hk
        have hi : i < us.size := by rw [h1]; exact (List.getElem?_eq_some_iff.1 hv).1
        have hx : us[i]? = some us[i] := Array.getElem?_eq_getElem hi
        obtain ⟨g', σ', k1, k2, k3⟩ := vmvS_sound h r (h2 i v us[i] hv hx)
        refine ⟨us[i], w, g', σ', v, ?_, k1, k2, k3⟩
        have : a.eval (.tmp k) = .tuple us := hu
        simp [execOp, ho, this, Instr.extract, hi]
      · exact h.elim
    · exact h.elim
  · exact h.elim
theorem vassign_sound {x : Operand} (ho : o.op = .assign x) (h : vassign σ x d K) (r : RS B g σ a w) : Done P B o a w d K := by
  have other : ∀ x, o.op = .assign x → K (σ.ev x) σ → Done P B o a w d K := fun x ho h => (Done.same (fun w' _ => by simp [execOp, ho]) h r (r.ev x d)).done r
  unfold vassign at h
  split at h
  · rename_i k
    split at h
    · rename_i k' i e
      split at h
      · rename_i vs e2
        split at h
        · rename_i s xs e3
          have hk := r.2.2.2.1 k
          rw [e] at hk
          simp only [RT, RG, RC] at hk
          have hk' := r.2.2.2.1 k'
          rw [e2] at hk'
          simp only [RT] at hk'
          obtain ⟨us, hu, h1, h2⟩ := hk'
          have hi : i < us.size := by rw [h1]; exact (List.getElem?_eq_some_iff.1 e3).1
          have hx : us[i]? = some us[i] := Array.getElem?_eq_getElem hi
          have hg := h2 i _ us[i] e3 hx
          have hev : a.eval (.tmp k) = us[i] := by
            have hg' : OwP g w (.sl k' i 0) s xs us[i] := hg
            obtain ⟨A, cap, e4, _⟩ := OwP.slice hg'
            have h0 := hk.1
            simp only [hdr, hu, pick2, hx, e4, Option.some.injEq] at h0
            show a.tmps.getD k undef = _
            rw [e4]; exact h0.symm
          obtain ⟨g', σ', k1, k2, k3⟩ := vmvS_sound h r hg
          exact ⟨us[i], w, g', σ', _, by rw [← hev]; simp [execOp, ho], k1, k2, k3⟩
        · exact other _ ho h
      · exact other _ ho h
    · rename_i hnh
      cases ho' : hasOwn (σ.get k) with
      | false => simp only [ho', cond_false] at h; exact other _ ho h
      | true =>
        simp only [ho', cond_true] at h
        have hk := r.2.2.2.1 k
        have hg : RG g a w k 0 (σ.get k) (a.tmps.getD k undef) := by
          cases hgk : σ.get k <;> rw [hgk] at hk ho' <;> first | exact hk | (simp [hasOwn] at ho')
        obtain ⟨g', σ', k1, k2, k3⟩ := vmvS_sound h r hg
        exact ⟨_, w, g', σ', _, by simp [execOp, ho, Act.eval], k1, k2, k3⟩
  · exact other _ ho h
end
end Go.Proofs.YtfdmlccbfbiloaaGreatDoor.Vs
