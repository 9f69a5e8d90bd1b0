import Derived.Test.YtfdmlccbfbiloaaGreatDoorVd
import Derived.Orders
import Derived.Handed
/- The calculus: a drawn order: new boxes and lists; the walk. -/
namespace Go.Proofs.YtfdmlccbfbiloaaGreatDoor.Vs
open Go
variable [Gl]
set_option linter.unusedSectionVars false
section
variable {P : Program} {B : Bs} {g : Gh} {σ : St} {a : Act} {w : World} {Θ : Nat → Option TI} {n : Nat} {o : Oper} {d : Nat}

theorem retag_nil {g : Gh} {b : Nat} : (retag [] g).ow b = g.ow b := by
  simp only [retag]
  split <;> rename_i h
  · simp [mlk, h]
  · rfl
theorem adds_alloc (hΘ : ThOk P Θ) {t : TypeId} {ti : TI} (ho : o.op = .alloc t) (hti : Θ t = some ti) : Adds P B o d σ (.ptr d 0) (some (ti.zero.map .val)) := by
  intro g a w r
  have ok := hΘ t ti hti
  obtain ⟨inf, z, i1, i2, i3, i4, i5⟩ := ok.info
  refine .inl ⟨.pointer (some ⟨w.heap.size, 0, none⟩), w.alloc (.cells z.cells t), by simp [execOp, ho, Instr.alloc, zeroValue, typeInfo, i1, i4, newVar, newRow], ⟨fun b => if b = w.heap.size then .bx d else g.ow b, fun b => if b = d then (w.heap.size, 0) else g.ad b⟩, ?_, ?_, ?_⟩
  · refine ⟨rfl, rfl, rfl, by show _ ≤ (w.heap.push _).size; simp, fun b hb => ⟨by simp [show ¬ b = w.heap.size by omega], alloc_old _ _ _ hb⟩, fun k hk => ?_⟩
    rcases hk with hk | hk
    · cases hk
    · simp [hk]
  · show _ = _
    simp
  · intro cs e
    simp only [Option.some.injEq] at e
    subst e
    refine ⟨by simp, z.cells, t, (0, 0), by simp only [if_true]; exact alloc_new _ _, fun j v hv => ?_⟩
    rw [List.getElem?_map] at hv
    cases hz : ti.zero[j]? with
    | none => rw [hz] at hv; cases hv
    | some x =>
      rw [hz] at hv
      simp only [Option.map_some, Option.some.injEq] at hv
      subst hv
      have hone : x.oneCell' = true := by have := ok.one; rw [List.all_eq_true] at this; exact this x (List.mem_of_getElem? hz)
      refine ⟨by simp, x, ?_, hone, rfl, hone⟩
      simp only [if_true, Nat.zero_add]
      rw [← i5] at hz
      simpa using hz

/-- plain values in a row, as content -/
def flatC : List V → Option (List C)
  | [] => some []
  | v :: r => match v, flatC r with
    | .val x, some cs => some (C.v x :: cs)
    | _, _ => none
theorem flatC_get : ∀ {vs : List V} {cs : List C}, flatC vs = some cs → cs.length = vs.length ∧ ∀ (j : Nat) c, cs[j]? = some c → ∃ x, c = C.v x ∧ vs[j]? = some (.val x)
  | [], cs, h => by simp only [flatC, Option.some.injEq] at h; subst h; exact ⟨rfl, fun j c h => by simp at h⟩
  | v :: r, cs, h => by
    simp only [flatC] at h
    split at h
    · rename_i x cs' e
      simp only [Option.some.injEq] at h
      subst h
      obtain ⟨k1, k2⟩ := flatC_get e
      refine ⟨by simp [k1], fun j c hc => ?_⟩
      cases j with
      | zero => simp only [List.getElem?_cons_zero, Option.some.injEq] at hc; exact ⟨x, hc.symm, rfl⟩
      | succ j => simpa using k2 j c (by simpa using hc)
    · cases h
def vbuildA (Θ : Nat → Option TI) (t len : Nat) (parts : List (Nat × Operand)) (σ : St) (K : V → Prop) : Prop :=
  bif (tk Θ t).isSl && szPos Θ (tk Θ t).el then (match opsOf 0 parts with
    | some xs => bif Nat.beq xs.length len && Nat.ble (len * szOf Θ (tk Θ t).el) 16777216 && allSz (szOf Θ (tk Θ t).el) (evs σ xs) then (match flatC (flatV (evs σ xs)) with
      | some cs => K (.own (szOf Θ (tk Θ t).el) (chunk (szOf Θ (tk Θ t).el) len cs))
      | none => False) else False
    | none => False) else False
theorem adds_build (hΘ : ThOk P Θ) {t : TypeId} {len : Nat} {parts : Array (Nat × Operand)} {K : V → Prop} (ho : o.op = .buildSlice t len parts) (h : vbuildA Θ t len parts.toList σ K) : ∃ v, K v ∧ Adds P B o d σ v none := by
  unfold vbuildA at h
  cases hc : (tk Θ t).isSl && szPos Θ (tk Θ t).el with
  | false => simp only [hc, cond_false] at h
  | true =>
    simp only [hc, cond_true] at h
    simp only [Bool.and_eq_true] at hc
    obtain ⟨hc1, hc2⟩ := hc
    have ht := isSl_und hΘ hc1
    obtain ⟨ti, hti⟩ : ∃ ti, Θ (tk Θ t).el = some ti := by
      unfold szPos at hc2
      cases e : Θ (tk Θ t).el with
      | none => rw [e] at hc2; cases hc2
      | some i => exact ⟨i, rfl⟩
    have hsz := szOf_eq hti
    rw [hsz] at h
    obtain ⟨inf, z, i1, i2, i3, i4, i5⟩ := (hΘ _ ti hti).info
    cases hop : opsOf 0 parts.toList with
    | none => simp only [hop] at h
    | some xs =>
      simp only [hop] at h
      cases hk : Nat.beq xs.length len && Nat.ble (len * ti.sz) 16777216 && allSz ti.sz (evs σ xs) with
      | false => simp only [hk, cond_false] at h
      | true =>
        simp only [hk, cond_true] at h
        simp only [Bool.and_eq_true] at hk
        obtain ⟨⟨k1, k2⟩, k3⟩ := hk
        have hlen : xs.length = len := Nat.eq_of_beq_eq_true k1
        have hle : len * ti.sz ≤ 16777216 := Nat.le_of_ble_eq_true k2
        cases htk : flatC (flatV (evs σ xs)) with
        | none => simp only [htk] at h
        | some cs =>
          simp only [htk] at h
          obtain ⟨t1, t2⟩ := flatC_get htk
          refine ⟨_, h, fun g a w r => ?_⟩
          obtain ⟨e1, e2, e3, e4, e5⟩ := evs_cells r ti.sz xs k3
          have hL : OwL (fun b => g.ow b = .imm) w cs ((xs.map a.eval).flatMap fun v => v.cells.toList) [] := OwL.flatOf fun j x hx => by
            obtain ⟨y, rfl, hy⟩ := t2 j x hx
            have hj : j < ((xs.map a.eval).flatMap fun v => v.cells.toList).length := by
              rw [e1, ← t1]; exact (List.getElem?_eq_some_iff.1 hx).1
            have hu := List.getElem?_eq_getElem hj
            obtain ⟨q, hq⟩ := e5 j _ _ hy hu
            obtain ⟨hq1, hq2⟩ := hq
            exact ⟨y, rfl, by rw [hu, hq1], hq2⟩
          have hrow : ∀ zero : Array Value, ∃ arr', Instr.fill (fun i => some (i * ti.sz, ti.sz)) ((Array.range (len * ti.sz)).map (zero[· % zero.size]!)) (parts.map fun (i, x) => (i, a.eval x)).toList = some arr' ∧
              arr'.toList = (xs.map a.eval).flatMap fun v => v.cells.toList := by
            intro zero
            have hp : (parts.map fun (i, x) => (i, a.eval x)).toList = ((xs.map a.eval).zipIdx 0).map fun p => (p.2, p.1) := by
              rw [← opsOf_sound parts.toList 0 xs hop]
              simp
            obtain ⟨arr', f1, f2⟩ := fill_row ti.sz (xs.map a.eval) 0 ((Array.range (len * ti.sz)).map (zero[· % zero.size]!)) e2 (by simp [hlen])
            refine ⟨arr', by rw [hp]; exact f1, ?_⟩
            rw [f2]
            rw [List.drop_eq_nil_of_le (by simp [hlen])]
            simp
          obtain ⟨arr', _, f2⟩ := hrow #[]
          have hsize : arr'.size = len * ti.sz := by rw [← Array.length_toList, f2, e1, e3, hlen]
          have hrun : (execOp a.eval o).run P w = .ok (.value (.slice (some ⟨w.heap.size, 0, none⟩) len len)) (w.alloc (.cells arr' (tk Θ t).el)) := by
            have := run_buildS (P := P) (w := w) (parts := parts.map fun (i, x) => (i, a.eval x)) (cells := arr') ht (run_sizeOf_of hΘ hti) (z := z) (by simp [zeroValue, typeInfo, i1, i4]) hle (fun zero _ => by
              obtain ⟨arr2, g1, g2⟩ := hrow zero
              rw [g1]
              congr 1
              exact Array.ext' (g2.trans f2.symm))
            simp only [execOp, ho]
            rw [Sem.run_bind, this]
            rfl
          have hpos : 1 ≤ ti.sz := by simpa [szPos, hti, Nat.blt] using hc2
          have hcap : len ≤ cap63 := by
            have := Nat.le_mul_of_pos_right len hpos
            unfold cap63; omega
          have hE := OwL.chunk len hL (by rw [t1, e3, hlen])
          rw [← f2] at hE
          have N := new_own (mp := []) (p := .sl d 0 0) (by intro q hq; cases hq) hE (by simp) (by simp)
            (by rw [chunk_len]; exact Nat.le_refl _) hcap hsize (.inl rfl) (w' := w.alloc (.cells arr' (tk Θ t).el)) (fr := (0, 0)) (alloc_new _ _) (fun b hb => alloc_old _ _ _ hb) rfl rfl rfl (by show _ ≤ (w.heap.push _).size; simp) r
          rw [chunk_len] at N
          refine .inl ⟨_, _, hrun, goG [] g w.heap.size (.sl d 0 0), ⟨rfl, rfl, rfl, by show _ ≤ (w.heap.push _).size; simp, fun b hb => ⟨?_, alloc_old _ _ _ hb⟩, fun _ _ => rfl⟩, N.2, fun cs e => by cases e⟩
          simp only [goG, show ¬ b = w.heap.size by omega, if_false]
          exact retag_nil

/-! #### the walk -/
def vadd1 (P : Program) (Θ : Nat → Option TI) (B : Bs) (o : Oper) (σ : St) (d : Nat) (K : V → Option (List V) → Prop) : Prop :=
  match o.op with
  | .call ⟨.value fv, ⟨xs⟩, _⟩ => vcallA P B σ o d fv xs fun v => K v none
  | .alloc t => (match Θ t with | some ti => K (.ptr d 0) (some (ti.zero.map .val)) | none => False)
  | .buildSlice t len parts => vbuildA Θ t len parts.toList σ fun v => K v none
  | _ => vopQ Θ o σ fun v _ => K v none
theorem vadd1_sound (hΘ : ThOk P Θ) {K : V → Option (List V) → Prop} (h : vadd1 P Θ B o σ d K) : ∃ v nb, K v nb ∧ Adds P B o d σ v nb := by
  unfold vadd1 at h
  split at h
  · rename_i fv xs ts e
    obtain ⟨v, k, A⟩ := adds_call e h
    exact ⟨v, none, k, A⟩
  · rename_i t e
    split at h
    · rename_i ti hti
      exact ⟨_, _, h, adds_alloc hΘ e hti⟩
    · exact h.elim
  · rename_i t len parts e
    obtain ⟨v, k, A⟩ := adds_build hΘ e h
    exact ⟨v, none, k, A⟩
  · obtain ⟨v, k, A⟩ := adds_quiet (d := d) (B := B) hΘ h
    exact ⟨v, none, k, A⟩
/-- is it wanted? -/
def gval (σ : St) (all : List Oper) (gd : Option (Nat × Bool)) : Option Bool :=
  match gd with
  | none => some true
  | some (j, want) => match (match all[j]? with | some o => o.dst | none => none) with
    | none => none
    | some dj => match σ.get dj with
      | .tup _ => some false
      | .val (.bool t) => some (bif want then t else !t)
      | _ => none
theorem gval_sound {all : List Oper} {t : Bool} (h : gval σ all o.guard = some t) (r : RS B g σ a w) : Region.wanted o (yielded all.toArray a.tmps) = t := by
  have key : vguard σ all o.guard (fun _ => t = true) (fun _ => t = false) := by
    revert h
    generalize o.guard = gd
    cases gd with
    | none => intro h; exact (Option.some.inj h).symm
    | some x =>
      obtain ⟨j, want⟩ := x
      unfold gval vguard
      dsimp only
      generalize all[j]? = oo
      cases oo with
      | none => intro h; cases h
      | some o' =>
      dsimp only
      generalize o'.dst = od
      cases od with
      | none => intro h; cases h
      | some dj =>
        dsimp only
        generalize σ.get dj = v
        cases v with
        | tup vs => intro h; exact (Option.some.inj h).symm
        | val y =>
          cases y with
          | bool s =>
            intro h
            have h := Option.some.inj h
            subst h
            cases s <;> cases want <;> exact rfl
          | _ => intro h; cases h
        | _ => intro h; cases h
  obtain ⟨σ', _, hh⟩ := vguard_sound key r
  rcases hh with ⟨h1, h2⟩ | ⟨h1, h2⟩ <;> rw [h1, h2]
def isAnc (M : List Nat) (i : Nat) : Nat → Bool := fun j => Nat.blt j i && (M.getD i 0).testBit j
/-- a list, spelled out -/
def fcSp : List (Nat × V) → (List (Nat × V) → Prop) → Prop
  | [], K => K []
  | (k, v) :: r, K => fcSp r fun r => K ((k, v) :: r)
theorem fcSp_eq : ∀ {l : List (Nat × V)} {K : List (Nat × V) → Prop}, fcSp l K → K l
  | [], _, h => h
  | (k, v) :: _, K, h => fcSp_eq (K := fun r => K ((k, v) :: r)) h
def fcBp : List (Nat × List V) → (List (Nat × List V) → Prop) → Prop
  | [], K => K []
  | (k, v) :: r, K => fcBp r fun r => K ((k, v) :: r)
theorem fcBp_eq : ∀ {l : List (Nat × List V)} {K : List (Nat × List V) → Prop}, fcBp l K → K l
  | [], _, h => h
  | (k, v) :: _, K, h => fcBp_eq (K := fun r => K ((k, v) :: r)) h
def fcSt (σ : St) (K : St → Prop) : Prop := fcSp σ.s fun s => fcBp σ.b fun b => K ⟨s, b⟩
theorem fcSt_eq {σ : St} {K : St → Prop} (h : fcSt σ K) : K σ := fcBp_eq (fcSp_eq (K := fun s => fcBp σ.b fun b => K ⟨s, b⟩) h)
/-- the operations from number i on, each in the state that those it hangs on tell -/
def vaddops (P : Program) (Θ : Nat → Option TI) (B : Bs) (n : Nat) (all : List Oper) (M : List Nat) (σ : St) : Nat → List Oper → List Fct → (List Fct → Prop) → Prop
  | _, [], F, K => K F
  | i, o :: r, F, K => match o.dst with
    | none => False
    | some d => bif Nat.blt d n then fcSp (fS (isAnc M i) F σ.s) fun s => fcBp (fB (isAnc M i) F σ.b) fun b => (match gval ⟨s, b⟩ all o.guard with
      | some t => brm t (vadd1 P Θ B o ⟨s, b⟩ d fun v nb => fcV v fun v => vaddops P Θ B n all M σ (i + 1) r (⟨i, d, v, nb⟩ :: F) K) (vaddops P Θ B n all M σ (i + 1) r (⟨i, d, .tup [], none⟩ :: F) K)
      | none => False) else False
/-- what is known of each: it yields its value where those before it that it hangs on are told -/
def okF (P : Program) (B : Bs) (n : Nat) (all : List Oper) (M : List Nat) (σ : St) : List Fct → Prop
  | [] => True
  | f :: G => (f.i = G.length ∧ ∃ o, all[f.i]? = some o ∧ o.dst = some f.d ∧ f.d < n ∧ OpAdds P B all o f.d (stF (isAnc M f.i) G σ) f.v f.nb) ∧ okF P B n all M σ G
theorem vaddops_sound (hΘ : ThOk P Θ) {all : List Oper} {M : List Nat} {K : List Fct → Prop} : ∀ {l : List Oper} {i : Nat} {F : List Fct}, vaddops P Θ B n all M σ i l F K → F.length = i → (∀ j, l[j]? = all[i + j]? ∨ l.length ≤ j) → okF P B n all M σ F →
    ∃ F', K F' ∧ F'.length = i + l.length ∧ okF P B n all M σ F'
  | [], i, F, h, hi, _, ok => ⟨F, h, hi, ok⟩
  | o :: l, i, F, h, hi, hl, ok => by
    have h0 : all[i]? = some o := by
      rcases hl 0 with e | e
      · simpa using e.symm
      · simp at e
    have hl' : ∀ j, l[j]? = all[i + 1 + j]? ∨ l.length ≤ j := by
      intro j
      rcases hl (j + 1) with e | e
      · left; rw [show i + 1 + j = i + (j + 1) by omega, ← e]; rfl
      · right; simpa using e
    have hlen : i + (o :: l).length = i + 1 + l.length := by simp; omega
    rw [hlen]
    unfold vaddops at h
    split at h
    · exact h.elim
    · rename_i d hd
      cases hb : Nat.blt d n with
      | false => simp only [hb, cond_false] at h
      | true =>
        simp only [hb, cond_true] at h
        have hdn : d < n := Nat.le_of_ble_eq_true hb
        have h := fcBp_eq (fcSp_eq (K := fun s => fcBp (fB (isAnc M i) F σ.b) fun b => (match gval ⟨s, b⟩ all o.guard with
          | some t => brm t (vadd1 P Θ B o ⟨s, b⟩ d fun v nb => fcV v fun v => vaddops P Θ B n all M σ (i + 1) l (⟨i, d, v, nb⟩ :: F) K) (vaddops P Θ B n all M σ (i + 1) l (⟨i, d, .tup [], none⟩ :: F) K)
          | none => False)) h)
        split at h
        · rename_i t hg
          rcases brm_elim h with ⟨rfl, hk⟩ | ⟨rfl, hk⟩
          · obtain ⟨v, nb, k, A⟩ := vadd1_sound hΘ hk
            have k := fcV_eq k
            exact vaddops_sound hΘ k (by simp [hi]) hl' ⟨⟨hi.symm, o, h0, hd, hdn, .inl ⟨A, fun g a w r => gval_sound hg r⟩⟩, ok⟩
          · exact vaddops_sound hΘ hk (by simp [hi]) hl' ⟨⟨hi.symm, o, h0, hd, hdn, .inr ⟨rfl, rfl, fun g a w r => gval_sound hg r⟩⟩, ok⟩
        · exact h.elim

/-! #### the checks -/
def edges (o : Oper) : List Nat := (o.after.toList.filter fun e => Region.binds .any e).map (·.on)
def inN : List Nat → Nat → Bool
  | [], _ => false
  | x :: r, k => Nat.beq x k || inN r k
/-- M tells of each operation what comes before it in any order; those up to m hang on none behind m; those from m on come one by one -/
def chkM (M : List Nat) (m : Nat) : Nat → List Oper → Bool
  | _, [] => true
  | i, o :: r => (edges o).all (fun e => Nat.blt e i) &&
      ((List.range i).all (fun j => !(isAnc M i j) || (edges o).any fun e => Nat.beq e j || isAnc M e j) &&
      ((Nat.blt i m || (List.range i).all fun j => isAnc M i j) && chkM M m (i + 1) r))
def masks : List Oper → List Nat → List Nat
  | [], acc => acc
  | o :: r, acc => masks r (acc ++ [(edges o).foldl (fun s e => s ||| 2 ^ e ||| acc.getD e 0) 0])
def isDead : V → Bool
  | .dead => true
  | _ => false
def noBoxAt (σ : St) (d : Nat) : Bool := match σ.box d with
  | none => true
  | some _ => false
/-- the slots are fresh; a value leans on a slot or a box of these only where it comes behind -/
def chkF1 (M : List Nat) (σ : St) (F : List Fct) : List Fct → Bool
  | [] => true
  | ⟨i, d, v, nb⟩ :: r => (isDead (σ.get d) && (!(v.pls.any (inSl d)) && (!(leanS (kfS d) σ.s) && (!(leanB (kfS d) σ.b) && freeF (kfS d) (fun j => isAnc M j i || Nat.beq j i) F)))) &&
      ((match nb with
        | some _ => noBoxAt σ d && (!(leanS (kfB d) σ.s) && (!(leanB (kfB d) σ.b) && freeF (kfB d) (fun j => isAnc M j i || Nat.beq j i) F))
        | none => true) && chkF1 M σ F r)
theorem chkF1_cons {M : List Nat} {σ : St} {F : List Fct} {f : Fct} {r : List Fct} : chkF1 M σ F (f :: r) = ((isDead (σ.get f.d) && (!(f.v.pls.any (inSl f.d)) && (!(leanS (kfS f.d) σ.s) && (!(leanB (kfS f.d) σ.b) && freeF (kfS f.d) (fun j => isAnc M j f.i || Nat.beq j f.i) F)))) &&
      ((match f.nb with
        | some _ => noBoxAt σ f.d && (!(leanS (kfB f.d) σ.s) && (!(leanB (kfB f.d) σ.b) && freeF (kfB f.d) (fun j => isAnc M j f.i || Nat.beq j f.i) F))
        | none => true) && chkF1 M σ F r)) := by cases f; rfl
def chkF (M : List Nat) (σ : St) (F : List Fct) : Bool := nodupF F && chkF1 M σ F F
end
end Go.Proofs.YtfdmlccbfbiloaaGreatDoor.Vs
/- The calculus: a drawn order: one walk serves every order. -/
namespace Go.Proofs.YtfdmlccbfbiloaaGreatDoor.Vs
open Go
variable [Gl]
set_option linter.unusedSectionVars false
section
variable {P : Program} {B : Bs} {g : Gh} {σ : St} {a : Act} {w : World} {Θ : Nat → Option TI} {n : Nat} {o : Oper} {d : Nat}

def Lst (L : Array Bool) (i : Nat) : Bool := L.getD i false
def Closed (l : List Oper) (L : Array Bool) : Prop := ∀ i o, Lst L i = true → l[i]? = some o → ∀ e ∈ edges o, Lst L e = true
theorem mem_edges {o : Oper} {e : Nat} : e ∈ edges o ↔ ∃ x ∈ o.after.toList, Region.binds .any x = true ∧ x.on = e := by
  simp only [edges, List.mem_map, List.mem_filter]
  constructor
  · rintro ⟨x, ⟨h1, h2⟩, h3⟩; exact ⟨x, h1, h2, h3⟩
  · rintro ⟨x, h1, h2, h3⟩; exact ⟨x, ⟨h1, h2⟩, h3⟩
theorem ready_iff {l : List Oper} {L : Array Bool} {i : Nat} : i ∈ Region.ready .any l.toArray L ↔ i < l.length ∧ L.getD i true = false ∧ ∃ o, l[i]? = some o ∧ ∀ e ∈ edges o, Lst L e = true := by
  simp only [Region.ready, List.mem_filter, List.mem_range, List.size_toArray, Bool.and_eq_true, Bool.not_eq_true']
  constructor
  · rintro ⟨h1, h2, h3⟩
    refine ⟨h1, h2, ?_⟩
    have e0 : l.toArray[i]? = some l[i] := by simp [h1]
    rw [e0] at h3
    refine ⟨l[i], List.getElem?_eq_getElem h1, fun e he => ?_⟩
    obtain ⟨x, hx, hb, rfl⟩ := mem_edges.1 he
    simp only [Option.map_some, Option.getD_some, Array.all_eq_true_iff_forall_mem] at h3
    have := h3 x (by simpa using hx)
    simpa [hb, Lst] using this
  · rintro ⟨h1, h2, o, h3, h4⟩
    refine ⟨h1, h2, ?_⟩
    have e0 : l.toArray[i]? = some o := by simpa using h3
    rw [e0]
    simp only [Option.map_some, Option.getD_some, Array.all_eq_true_iff_forall_mem]
    intro x hx
    cases hb : Region.binds .any x with
    | false => rfl
    | true =>
      have := h4 x.on (mem_edges.2 ⟨x, by simpa using hx, hb, rfl⟩)
      simpa [Lst] using this

theorem chkM_get {M : List Nat} {m : Nat} : ∀ {l : List Oper} {k : Nat}, chkM M m k l = true → ∀ (j : Nat) o, l[j]? = some o → (∀ e ∈ edges o, e < k + j) ∧ (∀ x, x < k + j → isAnc M (k + j) x = true → ∃ e ∈ edges o, e = x ∨ isAnc M e x = true) ∧ (m ≤ k + j → ∀ x, x < k + j → isAnc M (k + j) x = true)
  | [], k, _, j, o, h => by simp at h
  | y :: r, k, hc, j, o, h => by
    simp only [chkM, Bool.and_eq_true] at hc
    obtain ⟨h1, h2, h3, h4⟩ := hc
    cases j with
    | zero =>
      simp only [List.getElem?_cons_zero, Option.some.injEq] at h
      subst h
      refine ⟨fun e he => ?_, fun x hx ha => ?_, fun hm x hx => ?_⟩
      · rw [List.all_eq_true] at h1
        exact Nat.le_of_ble_eq_true (h1 e he)
      · rw [List.all_eq_true] at h2
        have := h2 x (List.mem_range.2 hx)
        simp only [Bool.or_eq_true, Bool.not_eq_true', List.any_eq_true] at this
        rcases this with h | ⟨e, he, h⟩
        · rw [Nat.add_zero] at ha; rw [ha] at h; cases h
        · exact ⟨e, he, h.imp (fun h => Nat.eq_of_beq_eq_true h) id⟩
      · simp only [Bool.or_eq_true] at h3
        rcases h3 with h3 | h3
        · have : k < m := Nat.le_of_ble_eq_true h3
          omega
        · rw [List.all_eq_true] at h3
          exact h3 x (List.mem_range.2 hx)
    | succ j =>
      have := chkM_get h4 j o (by simpa using h)
      rwa [show k + 1 + j = k + (j + 1) by omega] at this
theorem anc_lst {l : List Oper} {M : List Nat} {m : Nat} {L : Array Bool} (hc : chkM M m 0 l = true) (cl : Closed l L) : ∀ (i : Nat) o, l[i]? = some o → (∀ e ∈ edges o, Lst L e = true) → ∀ j, isAnc M i j = true → Lst L j = true := by
  intro i
  induction i using Nat.strongRecOn with
  | _ i ih =>
    intro o ho he j hj
    obtain ⟨h1, h2, _⟩ := chkM_get hc i o ho
    rw [Nat.zero_add] at h1 h2
    have hlt : j < i := by
      simp only [isAnc, Bool.and_eq_true] at hj
      exact Nat.le_of_ble_eq_true hj.1
    obtain ⟨e, he', h3⟩ := h2 j hlt hj
    rcases h3 with rfl | h3
    · exact he _ he'
    · have hei := h1 e he'
      have hil : i < l.length := (List.getElem?_eq_some_iff.1 ho).1
      have hel : l[e]? = some l[e] := List.getElem?_eq_getElem (by omega)
      exact ih e hei _ hel (cl e _ (he e he') hel) j h3
theorem okF_get {l : List Oper} {M : List Nat} : ∀ {F : List Fct}, okF P B n l M σ F → ∀ i, i < F.length → ∃ f G, f ∈ F ∧ f.i = i ∧ (∃ o, l[i]? = some o ∧ o.dst = some f.d ∧ f.d < n ∧ OpAdds P B l o f.d (stF (isAnc M i) G σ) f.v f.nb) ∧ (∀ x ∈ G, x ∈ F) ∧ (nodupF F = true → nodupF G = true)
  | [], _, i, h => by simp at h
  | f :: G, h, i, hi => by
    obtain ⟨⟨h1, h2⟩, h3⟩ := h
    by_cases e : i = G.length
    · rw [← e] at h1
      exact ⟨f, G, by simp, h1, by rw [← h1]; exact h2, fun x hx => by simp [hx], fun hn => by simp only [nodupF_cons, Bool.and_eq_true] at hn; exact hn.2⟩
    · obtain ⟨f', G', k1, k2, k3, k4, k5⟩ := okF_get h3 i (by simp at hi; omega)
      exact ⟨f', G', by simp [k1], k2, k3, fun x hx => by simp [k4 x hx], fun hn => k5 (by simp only [nodupF_cons, Bool.and_eq_true] at hn; exact hn.2)⟩
theorem okF_dst {l : List Oper} {M : List Nat} : ∀ {F : List Fct}, okF P B n l M σ F → ∀ f ∈ F, f.i < F.length ∧ ∃ o, l[f.i]? = some o ∧ o.dst = some f.d
  | [], _, f, h => by cases h
  | x :: G, h, f, hf => by
    obtain ⟨⟨h1, o, h2, h2', _⟩, h3⟩ := h
    rcases List.mem_cons.1 hf with rfl | hf
    · exact ⟨by rw [h1]; simp, o, h2, h2'⟩
    · obtain ⟨k1, k2⟩ := okF_dst h3 f hf
      exact ⟨by simp; omega, k2⟩
theorem chkF1_get {M : List Nat} {F : List Fct} : ∀ {G : List Fct}, chkF1 M σ F G = true → ∀ f ∈ G, (isDead (σ.get f.d) = true ∧ f.v.pls.any (inSl f.d) = false ∧ leanS (kfS f.d) σ.s = false ∧ leanB (kfS f.d) σ.b = false ∧ freeF (kfS f.d) (fun j => isAnc M j f.i || Nat.beq j f.i) F = true) ∧
    (f.nb.isSome = true → noBoxAt σ f.d = true ∧ leanS (kfB f.d) σ.s = false ∧ leanB (kfB f.d) σ.b = false ∧ freeF (kfB f.d) (fun j => isAnc M j f.i || Nat.beq j f.i) F = true)
  | [], _, f, h => by cases h
  | x :: G, h, f, hf => by
    simp only [chkF1_cons, Bool.and_eq_true, Bool.not_eq_true'] at h
    obtain ⟨⟨h1, h2, h3, h4, h5⟩, h6, h7⟩ := h
    rcases List.mem_cons.1 hf with rfl | hf
    · refine ⟨⟨h1, h2, h3, h4, h5⟩, fun hn => ?_⟩
      cases e : f.nb with
      | none => rw [e] at hn; cases hn
      | some cs =>
        rw [e] at h6
        simp only [Bool.and_eq_true, Bool.not_eq_true'] at h6
        exact ⟨h6.1, h6.2.1, h6.2.2.1, h6.2.2.2⟩
    · exact chkF1_get h7 f hf
theorem freeF_vals {κ : KF} {p : Nat → Bool} : ∀ {F : List Fct}, freeF κ p F = true → ∀ f ∈ F, ∀ cs, f.nb = some cs → cs.all (fun v => match v with | .val _ => true | _ => false) = true
  | [], _, f, h => by cases h
  | x :: G, h, f, hf => by
    simp only [freeF_cons, Bool.and_eq_true] at h
    intro cs e
    rcases List.mem_cons.1 hf with rfl | hf
    · have := h.2.1; rw [e] at this; exact this
    · exact freeF_vals h.2.2 f hf cs e
theorem get_stF {p : Nat → Bool} {F : List Fct} {k : Nat} (hn : nodupF F = true) : (stF p F σ).get k = match findF F k with | some f => if p f.i = true then f.v else σ.get k | none => σ.get k := by
  unfold St.get
  show (match lk (fS p F σ.s) k with | some v => v | none => .dead) = _
  rw [lk_fS hn]
  cases findF F k with
  | none => rfl
  | some f =>
    by_cases h : p f.i = true
    · simp [h]
    · simp only [h]; rfl
theorem box_stF {p : Nat → Bool} {F : List Fct} {k : Nat} (hn : nodupF F = true) : (stF p F σ).box k = match findF F k with | some f => (match f.nb with | some cs => if p f.i = true then some cs else σ.box k | none => σ.box k) | none => σ.box k :=
  lk_fB hn
theorem set_lst {L : Array Bool} {i j : Nat} (hi : i < L.size) : Lst (L.setIfInBounds i true) j = if j = i then true else Lst L j := by
  simp only [Lst, Array.getD_eq_getD_getElem?, Array.getElem?_setIfInBounds]
  by_cases h : i = j
  · subst h; simp [hi]
  · have : ¬ j = i := fun e => h e.symm
    simp [h, this]
/-- the state where L has come -/
abbrev stL (L : Array Bool) (F : List Fct) (σ : St) : St := stF (fun i => Lst L i) F σ
theorem RS.anc {M : List Nat} {L : Array Bool} {F G : List Fct} {i : Nat} (hF : chkF M σ F = true) (hG : ∀ x ∈ G, x ∈ F) (hGn : nodupF G = true) (ha : ∀ j, isAnc M i j = true → Lst L j = true) (r : RS B g (stL L F σ) a w) : RS B g (stF (isAnc M i) G σ) a w := by
  simp only [chkF, Bool.and_eq_true] at hF
  obtain ⟨hn, hF⟩ := hF
  have dead : ∀ x ∈ F, σ.get x.d = .dead := fun x hx => by
    have := (chkF1_get hF x hx).1.1
    revert this
    cases σ.get x.d <;> intro h <;> first | rfl | cases h
  refine r.ext (fun k => ?_) (fun b cs hb => ?_)
  · rw [get_stF hn, get_stF hGn]
    cases hg : findF G k with
    | some x =>
      obtain ⟨m1, rfl⟩ := findF_d hg
      have hf := findF_of hn (hG x m1)
      simp only [hf]
      by_cases hx : isAnc M i x.i = true
      · right; rw [if_pos hx, if_pos (ha _ hx)]
      · left; rw [if_neg hx]; exact dead x (hG x m1)
    | none =>
      cases hf : findF F k with
      | none => right; rfl
      | some x =>
        obtain ⟨m1, rfl⟩ := findF_d hf
        left; exact dead x m1
  · rw [box_stF hGn] at hb
    rw [box_stF hn]
    have nob : ∀ x ∈ F, x.nb.isSome = true → σ.box x.d = none := fun x hx hs => by
      have := ((chkF1_get hF x hx).2 hs).1
      unfold noBoxAt at this
      split at this
      · assumption
      · cases this
    cases hg : findF G b with
    | some x =>
      obtain ⟨m1, rfl⟩ := findF_d hg
      have hf := findF_of hn (hG x m1)
      simp only [hg] at hb
      simp only [hf]
      cases hnb : x.nb with
      | none => simp only [hnb] at hb ⊢; exact hb
      | some cs' =>
        simp only [hnb] at hb ⊢
        by_cases hx : isAnc M i x.i = true
        · rw [if_pos hx] at hb; rw [if_pos (ha _ hx)]; exact hb
        · rw [if_neg hx, nob x (hG x m1) (by rw [hnb]; rfl)] at hb; cases hb
    | none =>
      simp only [hg] at hb
      cases hf : findF F b with
      | none => exact hb
      | some x =>
        obtain ⟨m1, rfl⟩ := findF_d hf
        cases hnb : x.nb with
        | none => simp only [hnb]; exact hb
        | some cs' => rw [nob x m1 (by rw [hnb]; rfl)] at hb; cases hb
/-- one more has come -/
theorem RS.come {l : List Oper} {M : List Nat} {m : Nat} {L : Array Bool} {F : List Fct} {f : Fct} {o : Oper} {u : Value} {g' : Gh} {w' : World} (hc : chkM M m 0 l = true) (hL : L.size = l.length) (cl : Closed l L) (hF : chkF M σ F = true) (ok : okF P B n l M σ F) (hm : f ∈ F)
    (ho : l[f.i]? = some o) (hd : o.dst = some f.d) (hn' : f.d < B.n) (hnl : Lst L f.i = false) (r : RS B g (stL L F σ) a w) (G : Grow f.d f.nb.isSome g w g' w') (ht : RT g' a w' f.d f.v u) (hb : ∀ cs, f.nb = some cs → RB g' a w' f.d cs) :
    RS B g' (stL (L.setIfInBounds f.i true) F σ) (a.put (some f.d) u) w' := by
  have hF0 := hF
  simp only [chkF, Bool.and_eq_true] at hF
  obtain ⟨hn, hF⟩ := hF
  obtain ⟨⟨c1, c2, c3, c4, c5⟩, c6⟩ := chkF1_get hF f hm
  have hil : f.i < l.length := (List.getElem?_eq_some_iff.1 ho).1
  -- what has come does not hang on f
  have hno : ∀ j, Lst L j = true → isAnc M j f.i = true → False := by
    intro j hj ha
    have hjl : j < l.length := by
      have : Lst L j = true := hj
      unfold Lst at this
      rw [Array.getD_eq_getD_getElem?] at this
      cases e : L[j]? with
      | none => rw [e] at this; cases this
      | some _ => rw [← hL]; exact (Array.getElem?_eq_some_iff.1 e).1
    have hjo : l[j]? = some l[j] := List.getElem?_eq_getElem hjl
    have := anc_lst hc cl j _ hjo (cl j _ hj hjo) f.i ha
    rw [hnl] at this; cases this
  have hno' : ∀ j, Lst L j = true → (isAnc M j f.i || Nat.beq j f.i) = true → False := by
    intro j hj h
    simp only [Bool.or_eq_true] at h
    rcases h with h | h
    · exact hno j hj h
    · have := Nat.eq_of_beq_eq_true h
      subst this; rw [hnl] at hj; cases hj
  have R1 := r.growD G hn' (fun hs => by
    obtain ⟨_, e2, e3, e4⟩ := c6 hs
    refine ⟨lean_fS e4 hno' e2, lean_fB e4 (fun x hx hxl _ => ?_) e3⟩
    show Nat.beq f.d x.d = false
    cases hbq : Nat.beq f.d x.d with
    | false => rfl
    | true =>
      have he := Nat.eq_of_beq_eq_true hbq
      have h1 := findF_of hn hx
      have h2 := findF_of hn hm
      rw [← he, h2] at h1
      injection h1 with h1
      subst h1
      exact (hno' _ hxl (by simp)).elim)
  have R2 := R1.putF c2 (lean_fS c5 hno' c3) (lean_fB c5 (fun _ _ _ _ => rfl) c4) ht hn'
  -- the same, told in F's order
  have hidx : ∀ x ∈ F, x.i = f.i → x = f := by
    intro x hx e
    obtain ⟨_, o', h1, h2⟩ := okF_dst ok x hx
    rw [e, ho] at h1
    injection h1 with h1
    subst h1
    rw [hd] at h2
    injection h2 with h2
    have h3 := findF_of hn hx
    rw [← h2, findF_of hn hm] at h3
    injection h3 with h3
    exact h3.symm
  have hset : ∀ j, Lst (L.setIfInBounds f.i true) j = if j = f.i then true else Lst L j := fun j => set_lst (by omega)
  have hget : ∀ k, (stL (L.setIfInBounds f.i true) F σ).get k = if k = f.d then f.v else (stL L F σ).get k := by
    intro k
    rw [get_stF hn, get_stF hn]
    by_cases hk : k = f.d
    · subst hk
      rw [findF_of hn hm]
      simp [hset]
    · rw [if_neg hk]
      cases e : findF F k with
      | none => rfl
      | some x =>
        obtain ⟨m1, rfl⟩ := findF_d e
        have : ¬ x.i = f.i := fun h => hk (by rw [hidx x m1 h])
        simp only [hset, this, if_false]
  have hbox : ∀ b, (stL (L.setIfInBounds f.i true) F σ).box b = if b = f.d ∧ f.nb.isSome = true then f.nb else (stL L F σ).box b := by
    intro b
    rw [box_stF hn, box_stF hn]
    by_cases hk : b = f.d
    · subst hk
      rw [findF_of hn hm]
      cases hnb : f.nb with
      | none => simp [hnb]
      | some cs => simp [hset, hnb]
    · rw [if_neg (fun h => hk h.1)]
      cases e : findF F b with
      | none => rfl
      | some x =>
        obtain ⟨m1, rfl⟩ := findF_d e
        have : ¬ x.i = f.i := fun h => hk (by rw [hidx x m1 h])
        simp only [hset, this, if_false]
  obtain ⟨s1, s2, s3, s4, s5⟩ := R2
  refine ⟨⟨s1.1, fun x k cs hlt h0 hcs => ?_⟩, s2, s3, fun k => ?_, fun b cs hcs => ?_⟩
  · rw [hbox] at hcs
    split at hcs
    · rename_i hk
      have := (s1.1.2.2.2.2.2.1 x k hlt h0).1
      omega
    · exact s1.2 x k cs hlt h0 hcs
  · rw [hget]
    have := s4 k
    have e : St.get ⟨(f.d, f.v) :: (stL L F σ).s, (stL L F σ).b⟩ k = if k = f.d then f.v else (stL L F σ).get k := by
      by_cases hk : k = f.d
      · subst hk; simp [St.get, lk]
      · have hbq : Nat.beq f.d k = false := by
          cases hb : Nat.beq f.d k with
          | false => rfl
          | true => exact absurd (Nat.eq_of_beq_eq_true hb).symm hk
        rw [if_neg hk]
        simp [St.get, lk, hbq]
    rw [e] at this
    exact this
  · rw [hbox] at hcs
    split at hcs
    · rename_i hk
      obtain ⟨rfl, _⟩ := hk
      obtain ⟨b1, arr, e, fr, b2, b3⟩ := hb cs hcs
      have hv := freeF_vals c5 f hm cs hcs
      refine ⟨b1, arr, e, fr, b2, fun j v hv' => ?_⟩
      obtain ⟨q1, u', q2, q3, q4⟩ := b3 j v hv'
      refine ⟨q1, u', q2, q3, ?_⟩
      rw [List.all_eq_true] at hv
      have := hv v (List.mem_of_getElem? hv')
      cases v with
      | val x => exact q4
      | _ => cases this
    · exact s5 b cs hcs
end
end Go.Proofs.YtfdmlccbfbiloaaGreatDoor.Vs
/- The calculus: a drawn order: the rule. -/
namespace Go.Proofs.YtfdmlccbfbiloaaGreatDoor.Vs
open Go
variable [Gl]
set_option linter.unusedSectionVars false
section
variable {P : Program} {B : Bs} {g : Gh} {σ : St} {a : Act} {w : World} {Θ : Nat → Option TI} {n : Nat} {o : Oper} {d : Nat}

theorem filter_lt {p q : Nat → Bool} (hpq : ∀ x, p x = true → q x = true) : ∀ {l : List Nat} {x : Nat}, x ∈ l → q x = true → p x = false → (l.filter p).length < (l.filter q).length
  | y :: l, x, hx, h1, h2 => by
    have le : ∀ l : List Nat, (l.filter p).length ≤ (l.filter q).length := by
      intro l
      induction l with
      | nil => simp
      | cons z r ih =>
        rw [List.filter_cons, List.filter_cons]
        cases hz : p z with
        | true => simp [hpq z hz]; exact ih
        | false => cases hq : q z <;> simp <;> omega
    rw [List.filter_cons, List.filter_cons]
    rcases List.mem_cons.1 hx with rfl | hx
    · rw [h1, h2]
      have := le l
      simp; omega
    · have ih := filter_lt hpq hx h1 h2
      cases hy : p y with
      | true => simp [hpq y hy]; exact ih
      | false => cases hq : q y <;> simp <;> omega
def cntA (m : Nat) (L : Array Bool) : Nat := ((List.range m).filter fun i => !Lst L i).length

/-- those that come one by one -/
theorem any_tail {l : List Oper} {M : List Nat} {m : Nat} {Q : Exit → Act → World → Prop} (hc : chkM M m 0 l = true) : ∀ (fuel k : Nat) (L : Array Bool) (a : Act) (w : World), m ≤ k + 1 → l.length ≤ k + fuel → L.size = l.length → (∀ j, Lst L j = true ↔ j < k ∧ j < l.length) → wpList P l.toArray Q (l.drop k) a w → wpAny P .any l.toArray Q fuel L a w := by
  intro fuel
  have last : ∀ (k : Nat) (L : Array Bool) (a : Act) (w : World), (∀ j, Lst L j = true ↔ j < k ∧ j < l.length) → L.size = l.length → l.length ≤ k → wpList P l.toArray Q (l.drop k) a w → Region.ready .any l.toArray L = [] ∧ Q .normal a w := by
    intro k L a w hL hs hk h
    rw [List.drop_eq_nil_of_le hk] at h
    refine ⟨?_, h⟩
    rw [List.eq_nil_iff_forall_not_mem]
    intro i hi
    obtain ⟨h1, h2, _⟩ := ready_iff.1 hi
    have := (hL i).2 ⟨by omega, h1⟩
    unfold Lst at this
    rw [Array.getD_eq_getD_getElem?] at this h2
    have hi' : L[i]? = some L[i] := Array.getElem?_eq_getElem (by omega)
    rw [hi'] at this h2
    simp only [Option.getD_some] at this h2
    rw [this] at h2; cases h2
  induction fuel with
  | zero =>
    intro k L a w hm hk hs hL h
    exact last k L a w hL hs (by omega) h
  | succ fuel ih =>
    intro k L a w hm hk hs hL h
    by_cases hkl : l.length ≤ k
    · obtain ⟨h1, h2⟩ := last k L a w hL hs hkl h
      exact ⟨fun _ => h2, fun i hi => by rw [h1] at hi; cases hi⟩
    · have hkl : k < l.length := by omega
      have hko : l[k]? = some l[k] := List.getElem?_eq_getElem hkl
      have hrdy : ∀ i, i ∈ Region.ready .any l.toArray L → i = k := by
        intro i hi
        obtain ⟨h1, h2, o, h3, h4⟩ := ready_iff.1 hi
        have hnk : ¬ i < k := by
          intro hlt
          have := (hL i).2 ⟨hlt, h1⟩
          unfold Lst at this
          rw [Array.getD_eq_getD_getElem?] at this h2
          have hi' : L[i]? = some L[i] := Array.getElem?_eq_getElem (by omega)
          rw [hi'] at this h2
          simp only [Option.getD_some] at this h2
          rw [this] at h2; cases h2
        by_cases hik : i = k
        · exact hik
        · exfalso
          have cl : Closed l L := by
            intro j oj hj hjo e he
            obtain ⟨c1, _, _⟩ := chkM_get hc j oj hjo
            have := c1 e he
            rw [Nat.zero_add] at this
            have hj' := (hL j).1 hj
            exact (hL e).2 ⟨by omega, by omega⟩
          obtain ⟨_, _, c3⟩ := chkM_get hc i o h3
          rw [Nat.zero_add] at c3
          have hak := c3 (by omega) k (by omega)
          have := anc_lst hc cl i o h3 h4 k hak
          have := (hL k).1 this
          omega
      refine ⟨fun h0 => ?_, fun i hi => ?_⟩
      · exfalso
        have : k ∈ Region.ready .any l.toArray L := by
          refine ready_iff.2 ⟨hkl, ?_, l[k], hko, fun e he => ?_⟩
          · have hn : ¬ Lst L k = true := fun h => by have := (hL k).1 h; omega
            unfold Lst at hn
            rw [Array.getD_eq_getD_getElem?] at hn ⊢
            have hi' : L[k]? = some L[k] := Array.getElem?_eq_getElem (by omega)
            rw [hi'] at hn ⊢
            simpa using hn
          · obtain ⟨c1, _, _⟩ := chkM_get hc k _ hko
            have := c1 e he
            rw [Nat.zero_add] at this
            exact (hL e).2 ⟨this, by omega⟩
        rw [h0] at this; cases this
      · have := hrdy i hi
        subst this
        rw [List.drop_eq_getElem_cons hkl] at h
        unfold wpList at h
        have hnext : ∀ a w, wpList P l.toArray Q (l.drop (i + 1)) a w → wpAny P .any l.toArray Q fuel (L.setIfInBounds i true) a w := by
          intro a w h
          refine ih (i + 1) _ a w (by omega) (by omega) (by simp [hs]) (fun j => ?_) h
          rw [set_lst (by omega)]
          by_cases hj : j = i
          · subst hj; simp [hkl]
          · rw [if_neg hj, hL j]
            constructor <;> (intro h; omega)
        unfold wpOp
        have e0 : l.toArray[i]? = some l[i] := by simp [hkl]
        rw [e0]
        simp only
        split at h
        · rename_i hw
          rw [if_pos hw]
          exact h.imp (Oper.wp_mono hnext) id
        · rename_i hw
          rw [if_neg hw]
          exact hnext _ _ h

theorem lst_fresh {k i : Nat} : Lst (Array.replicate k false) i = false := by
  unfold Lst
  rw [Array.getD_eq_getD_getElem?, Array.getElem?_replicate]
  split <;> rfl
theorem vdrawG_intro (hΘ : ThOk P Θ) (hn : B.n = n) (hm : P.follows .mixedOrders = true) {id : Nat} {l : List Oper} {K : St → Prop} (m : Nat) (hml : Nat.ble m l.length = true) (hc : chkM (masks l []) m 0 l = true)
    (h : vaddops P Θ B n l (masks l []) σ 0 (l.take m) [] fun F => chkF (masks l []) σ F = true ∧ vops P Θ B n l (l.drop m) (stF (fun _ => true) F σ) K) : vdraw P B id l σ K := by
  have hml : m ≤ l.length := Nat.le_of_ble_eq_true hml
  generalize masks l [] = M at hc h
  obtain ⟨F, ⟨hF, hT⟩, hlen, ok⟩ := vaddops_sound hΘ h rfl (fun j => by
    by_cases hj : j < m
    · left; rw [Nat.zero_add, List.getElem?_take, if_pos hj]
    · right; simp; omega) trivial
  have hlen : F.length = m := by rw [hlen]; simp; omega
  unfold vdraw
  intro Q g a w r hQ
  refine wp_region_any hm ?_
  have hn0 : nodupF F = true := by simp only [chkF, Bool.and_eq_true] at hF; exact hF.1
  have main : ∀ (fuel : Nat) (L : Array Bool) (g : Gh) (a : Act) (w : World), cntA m L + (l.length - m) ≤ fuel → L.size = l.length → Closed l L → (∀ j, m ≤ j → Lst L j = false) → RS B g (stL L F σ) a w → wpAny P .any l.toArray (Pst B Q) fuel L a w := by
    intro fuel
    have tail : ∀ (fuel : Nat) (L : Array Bool) (g : Gh) (a : Act) (w : World), l.length - m ≤ fuel → L.size = l.length → (∀ j, m ≤ j → Lst L j = false) → (∀ j, j < m → Lst L j = true) → RS B g (stL L F σ) a w → wpAny P .any l.toArray (Pst B Q) fuel L a w := by
      intro fuel L g a w hf hs hT0 hA r
      refine any_tail hc fuel m L a w (by omega) (by omega) hs (fun j => ?_) ?_
      · constructor
        · intro hj
          by_cases hjm : j < m
          · exact ⟨hjm, by omega⟩
          · rw [hT0 j (by omega)] at hj; cases hj
        · intro hj; exact hA j hj.1
      · have r2 : RS B g (stF (fun _ => true) F σ) a w := by
          refine r.ext (fun k => ?_) (fun b cs hb => ?_)
          · rw [get_stF hn0, get_stF hn0]
            cases e : findF F k with
            | none => right; rfl
            | some x =>
              obtain ⟨m1, _⟩ := findF_d e
              have hx := (okF_dst ok x m1).1
              rw [hlen] at hx
              right; simp [hA _ hx]
          · rw [box_stF hn0] at hb ⊢
            cases e : findF F b with
            | none => rw [e] at hb; exact hb
            | some x =>
              obtain ⟨m1, _⟩ := findF_d e
              have hx := (okF_dst ok x m1).1
              rw [hlen] at hx
              rw [e] at hb
              cases hnb : x.nb with
              | none => simp only [hnb] at hb ⊢; exact hb
              | some cs' => simp only [hnb, hA _ hx] at hb ⊢; exact hb
        exact vops_sound hΘ hn hT r2 fun g' σ' a' w' k r' => ⟨g', σ', r', hQ σ' k⟩
    have full : ∀ L : Array Bool, cntA m L = 0 → ∀ j, j < m → Lst L j = true := by
      intro L h0 j hj
      have : (List.range m).filter (fun i => !Lst L i) = [] := List.length_eq_zero_iff.1 h0
      rw [List.filter_eq_nil_iff] at this
      have := this j (List.mem_range.2 hj)
      simpa using this
    induction fuel with
    | zero =>
      intro L g a w hf hs cl hT0 r
      exact tail 0 L g a w (by omega) hs hT0 (full L (by omega)) r
    | succ fuel ih =>
      intro L g a w hf hs cl hT0 r
      by_cases h0 : cntA m L = 0
      · exact tail (fuel + 1) L g a w (by omega) hs hT0 (full L h0) r
      · -- one of the first m has not come
        have hex : ∃ i, i < m ∧ Lst L i = false ∧ ∀ j, j < i → Lst L j = true := by
          have : ∃ i, i < m ∧ Lst L i = false := by
            apply Classical.byContradiction
            intro hno
            apply h0
            show ((List.range m).filter fun i => !Lst L i).length = 0
            rw [List.length_eq_zero_iff, List.filter_eq_nil_iff]
            intro i hi
            have hi := List.mem_range.1 hi
            cases e : Lst L i with
            | true => simp
            | false => exact (hno ⟨i, hi, e⟩).elim
          obtain ⟨i, h1, h2⟩ := this
          induction i using Nat.strongRecOn with
          | _ i ih2 =>
            by_cases hx : ∃ j, j < i ∧ Lst L j = false
            · obtain ⟨j, hj, hjf⟩ := hx
              exact ih2 j hj (by omega) hjf
            · refine ⟨i, h1, h2, fun j hj => ?_⟩
              cases e : Lst L j with
              | true => rfl
              | false => exact (hx ⟨j, hj, e⟩).elim
        have unl : ∀ i, i < l.length → Lst L i = false → L.getD i true = false := by
          intro i hi h
          unfold Lst at h
          rw [Array.getD_eq_getD_getElem?] at h ⊢
          have hi' : L[i]? = some L[i] := Array.getElem?_eq_getElem (by omega)
          rw [hi'] at h ⊢
          exact h
        obtain ⟨i0, hi0, hi0f, hi0b⟩ := hex
        refine ⟨fun hr => ?_, fun i hi => ?_⟩
        · exfalso
          have hil : i0 < l.length := by omega
          have hio : l[i0]? = some l[i0] := List.getElem?_eq_getElem hil
          have : i0 ∈ Region.ready .any l.toArray L := by
            refine ready_iff.2 ⟨hil, unl i0 hil hi0f, l[i0], hio, fun e he => ?_⟩
            obtain ⟨c1, _, _⟩ := chkM_get hc i0 _ hio
            have := c1 e he
            rw [Nat.zero_add] at this
            exact hi0b e this
          rw [hr] at this; cases this
        · obtain ⟨h1, h2, o, h3, h4⟩ := ready_iff.1 hi
          have hanc := anc_lst hc cl i o h3 h4
          have him : i < m := by
            apply Classical.byContradiction
            intro hno
            obtain ⟨_, _, c3⟩ := chkM_get hc i o h3
            rw [Nat.zero_add] at c3
            have := hanc i0 (c3 (by omega) i0 (by omega))
            rw [hi0f] at this; cases this
          have hnl : Lst L i = false := by
            unfold Lst
            rw [Array.getD_eq_getD_getElem?] at h2 ⊢
            have hi' : L[i]? = some L[i] := Array.getElem?_eq_getElem (by omega)
            rw [hi'] at h2 ⊢
            exact h2
          obtain ⟨f, G, f1, rfl, ⟨o', f3, f4, f5, f6⟩, f7, f8⟩ := okF_get ok i (by omega)
          rw [h3] at f3
          injection f3 with f3
          subst f3
          have rA := RS.anc hF f7 (f8 hn0) hanc r
          have hfd : f.d < B.n := by rw [hn]; exact f5
          have cl' : Closed l (L.setIfInBounds f.i true) := by
            intro j oj hj hjo e he
            rw [set_lst (by omega)] at hj ⊢
            have : Lst L e = true := by
              by_cases hji : j = f.i
              · subst hji
                rw [h3] at hjo
                injection hjo with hjo
                subst hjo
                exact h4 e he
              · rw [if_neg hji] at hj
                exact cl j oj hj hjo e he
            rw [this]; split <;> rfl
          have hcnt : cntA m (L.setIfInBounds f.i true) + (l.length - m) ≤ fuel := by
            have : cntA m (L.setIfInBounds f.i true) < cntA m L := by
              refine filter_lt (fun x hx => ?_) (List.mem_range.2 him) (by simp [hnl]) (by rw [set_lst (by omega)]; simp)
              rw [set_lst (by omega)] at hx
              split at hx
              · simp at hx
              · exact hx
            omega
          have hT1 : ∀ j, m ≤ j → Lst (L.setIfInBounds f.i true) j = false := by
            intro j hj
            rw [set_lst (by omega), if_neg (by omega)]
            exact hT0 j hj
          have go : ∀ u g' w', Grow f.d f.nb.isSome g w g' w' → RT g' a w' f.d f.v u → (∀ cs, f.nb = some cs → RB g' a w' f.d cs) → wpAny P .any l.toArray (Pst B Q) fuel (L.setIfInBounds f.i true) (a.put o.dst u) w' := by
            intro u g' w' G' ht hb
            rw [f4]
            exact ih _ g' _ w' hcnt (by simp [hs]) cl' hT1 (RS.come hc hs cl hF ok f1 h3 f4 hfd hnl r G' ht hb)
          unfold wpOp
          have e0 : l.toArray[f.i]? = some o := by simpa using h3
          rw [e0]
          simp only
          rcases f6 with ⟨A, hw⟩ | ⟨hv, hnb, hw⟩
          · rw [if_pos (hw g a w rA)]
            left
            rcases A g a w rA with ⟨u, w', k1, g', k2, k3, k4⟩ | ⟨fn, us, k1, k2⟩
            · unfold Oper.wp
              rw [k1]
              exact go u g' w' k2 k3 k4
            · unfold Oper.wp
              rw [k1]
              refine k2.mono ?_
              rintro e w' ⟨u, rfl, g', k2, k3, k4⟩
              exact go u g' w' k2 k3 k4
          · rw [if_neg (by rw [hw g a w rA]; simp)]
            refine go undef g w Grow.refl ?_ (fun cs e => by rw [hnb] at e; cases e)
            rw [hv]
            exact ⟨#[], rfl, rfl, fun i v x h => by simp at h⟩
  refine main _ _ g a { w with drawn := w.drawn + 1 } ?_ (by simp) (fun i o hi => by rw [lst_fresh] at hi; cases hi) (fun j _ => lst_fresh) ?_
  · show cntA m _ + _ ≤ l.toArray.size
    have : cntA m (Array.replicate l.toArray.size false) ≤ m := by
      unfold cntA
      refine Nat.le_trans (List.length_filter_le _ _) ?_
      simp
    simp only [List.size_toArray] at this ⊢
    omega
  · have r' : RS B g σ a { w with drawn := w.drawn + 1 } := r.cq ⟨rfl, rfl, rfl, Nat.le_refl _, fun _ _ => rfl⟩
    refine r'.ext (fun k => ?_) (fun b cs hb => ?_)
    · right
      rw [get_stF hn0]
      cases e : findF F k with
      | none => rfl
      | some x => simp [lst_fresh]
    · rw [box_stF hn0] at hb
      cases e : findF F b with
      | none => rw [e] at hb; exact hb
      | some x =>
        rw [e] at hb
        cases hnb : x.nb with
        | none => simp only [hnb] at hb; exact hb
        | some cs' => simp only [hnb, lst_fresh] at hb; exact hb
end
end Go.Proofs.YtfdmlccbfbiloaaGreatDoor.Vs
/- The calculus: functions whose lent lists stand in a box at the end (a struct that was handed in, boxed). -/
namespace Go.Proofs.YtfdmlccbfbiloaaGreatDoor.Vs
open Go
variable [Gl]
set_option linter.unusedSectionVars false
section
variable {P : Program} {B : Bs} {g : Gh} {σ : St} {a : Act} {w : World} {Θ : Nat → Option TI} {n : Nat}
/-- where part j of argument i stands at the end -/
def whereM : List (Pl × Pl) → Nat → Nat → Pl
  | [], i, j => .sl i 0 j
  | (q, y) :: r, i, j => bif y.beq (.sl (lz + i) 0 j) then q else whereM r i j
def okW (rl : List (Pl × Pl)) (i j : Nat) : Bool := bif isIn (whereM rl i j) rl then (mlk rl (whereM rl i j)).beq (.sl (lz + i) 0 j) else (whereM rl i j).beq (.sl i 0 j)
def rlOk (n : Nat) : List (Pl × Pl) → Bool
  | [] => true
  | (q, _) :: r => (match q with | .bx c _ => Nat.blt c n | _ => true) && rlOk n r
theorem rlOk_out {c j : Nat} : ∀ {rl : List (Pl × Pl)}, rlOk n rl = true → n ≤ c → isIn (.bx c j) rl = false
  | [], _, _ => rfl
  | (q, y) :: r, h, hc => by
    simp only [rlOk, Bool.and_eq_true] at h
    simp only [isIn, Bool.or_eq_false_iff]
    refine ⟨?_, rlOk_out h.2 hc⟩
    cases q with
    | sl _ _ _ => rfl
    | bx c' j' =>
      have : c' + 1 ≤ n := by simpa [Nat.blt] using h.1
      cases hb : (Pl.bx c' j').beq (.bx c j) with
      | false => rfl
      | true => have := Pl.beq_iff.1 hb; injection this; omega
def keepL (n : Nat) (ms : Ms) (rl : List (Pl × Pl)) (q : Pl) : Bool := isIn q rl || keepP n ms q
def ckL (n : Nat) (ms : Ms) (rl : List (Pl × Pl)) : List (Pl × Pl) → Bool
  | [] => true
  | (q, _) :: r => !(keepL n ms rl q) && ckL n ms rl r
theorem ckL_out {ms : Ms} {rl : List (Pl × Pl)} {q : Pl} : ∀ {mp : List (Pl × Pl)}, ckL n ms rl mp = true → keepL n ms rl q = true → isIn q mp = false
  | [], _, _ => rfl
  | (x, y) :: r, h, hk => by
    simp only [ckL, Bool.and_eq_true, Bool.not_eq_true'] at h
    have : x.beq q = false := by
      cases hb : x.beq q with
      | false => rfl
      | true => rw [Pl.beq_iff] at hb; subst hb; rw [hk] at h; exact absurd h.1 (by simp)
    simp only [isIn, this, Bool.false_or]
    exact ckL_out h.2 hk
def outG3 (n : Nat) (ms : Ms) (rl mp : List (Pl × Pl)) (g : Gh) : Gh := ⟨fun b => match g.ow b with
  | .pl q => bif isIn q mp then .pl (mlk mp q) else bif isIn q rl then .pl (mlk rl q) else (match q with
    | .sl i k j => bif Nat.beq k 0 && lentI ms i j then .pl (.sl (lz + i) 0 j) else .none
    | .bx c j => bif Nat.ble n c then .pl (.bx (c - n) j) else .none)
  | .bx c => bif Nat.ble n c then .bx (c - n) else .none
  | t => t, fun k => g.ad (n + k)⟩
def St.plcV (σ : St) : Pl → Option V
  | .sl k i j => (σ.get k).comp i j
  | .bx b j => match σ.box b with
    | some cs => cs[j]?
    | none => none
theorem RS.plcV {q : Pl} {v : V} (r : RS B g σ a w) (h : σ.plcV q = some v) : ∃ u, (v.own? ≠ none → hdr g a w q = some u) ∧ RC g a w q v u := by
  cases q with
  | sl k i j => exact RT.comp rfl (r.2.2.2.1 k) h
  | bx b j =>
    simp only [St.plcV] at h
    cases hb : σ.box b with
    | none => simp [hb] at h
    | some cs =>
      simp only [hb] at h
      obtain ⟨h1, arr, e, fr, h2, h3⟩ := r.2.2.2.2 b cs hb
      obtain ⟨_, u, h4, h5, h6⟩ := h3 j _ h
      exact ⟨u, fun _ => by simp only [hdr, h1, if_true, World.cell?, h2]; simpa using h4, h6⟩
def musRowL (σ : St) (rl : List (Pl × Pl)) (hs : List Value) (i : Nat) : Nat → List (Option (Nat × List (List C))) → Prop
  | _, [] => True
  | j, none :: r => musRowL σ rl hs i (j + 1) r
  | j, some (s, xs) :: r => okW rl i j = true ∧ (match σ.plcV (whereM rl i j) with | some v => vfinE v (.mu (cellN (hs.getD i undef) j) s xs) | none => False) ∧ musRowL σ rl hs i (j + 1) r
def musOkL (σ : St) (rl : List (Pl × Pl)) (hs : List Value) : Nat → Ms → Prop
  | _, [] => True
  | i, r :: l => musRowL σ rl hs i 0 r ∧ musOkL σ rl hs (i + 1) l
def vretL (Θ : Nat → Option TI) (rs : List ResultVar) (X : V) (n : Nat) (rl : List (Pl × Pl)) (hs : List Value) (ms : Ms) (bx' : List (List V)) (σ : St) : Prop :=
  vretC Θ rs X (ckL n ms rl) σ ∧ musOkL σ rl hs 0 ms ∧ bxsOk σ n 0 bx'
def vendL (Θ : Nat → Option TI) (rs : List ResultVar) (X : V) (n : Nat) (rl : List (Pl × Pl)) (hs : List Value) (ms : Ms) (bx' : List (List V)) (e : Exit) (σ : St) : Prop :=
  match e with
  | .ret => vretL Θ rs X n rl hs ms bx' σ
  | .normal => vretL Θ rs X n rl hs ms bx' σ
  | _ => False
theorem musRowL_get {rl : List (Pl × Pl)} {hs : List Value} {i : Nat} : ∀ {l : List (Option (Nat × List (List C)))} {k j s : Nat} {xs : List (List C)}, musRowL σ rl hs i k l → l[j]? = some (some (s, xs)) →
    okW rl i (k + j) = true ∧ σ.plcV (whereM rl i (k + j)) = some (.mu (cellN (hs.getD i undef) (k + j)) s xs)
  | [], k, j, s, xs, _, h => by simp at h
  | none :: r, k, j, s, xs, hm, h => by
    cases j with
    | zero => simp at h
    | succ j =>
      have := musRowL_get (k := k + 1) (j := j) hm (by simpa using h)
      rwa [show k + 1 + j = k + (j + 1) by omega] at this
  | some (s0, xs0) :: r, k, j, s, xs, hm, h => by
    cases j with
    | zero =>
      simp only [List.getElem?_cons_zero, Option.some.injEq, Prod.mk.injEq] at h
      obtain ⟨rfl, rfl⟩ := h
      obtain ⟨h0, h1, _⟩ := hm
      refine ⟨h0, ?_⟩
      split at h1
      · rename_i v e
        rw [Nat.add_zero, e, vfinE_elim h1]
      · exact h1.elim
    | succ j =>
      have := musRowL_get (k := k + 1) (j := j) hm.2.2 (by simpa using h)
      rwa [show k + 1 + j = k + (j + 1) by omega] at this
theorem musOkL_get {rl : List (Pl × Pl)} {hs : List Value} : ∀ {ms : Ms} {k i j s : Nat} {xs : List (List C)}, musOkL σ rl hs k ms → msAt ms i j = some (s, xs) →
    okW rl (k + i) j = true ∧ σ.plcV (whereM rl (k + i) j) = some (.mu (cellN (hs.getD (k + i) undef) j) s xs)
  | [], k, i, j, s, xs, _, h => by simp [msAt] at h
  | row :: r, k, i, j, s, xs, hm, h => by
    cases i with
    | zero =>
      simp only [msAt, List.getElem?_cons_zero] at h
      split at h
      · rename_i x e
        subst h
        have := musRowL_get (k := 0) hm.1 e
        rwa [Nat.zero_add] at this
      · cases h
    | succ i =>
      have := musOkL_get (ms := r) (k := k + 1) (i := i) (j := j) hm.2 (by simpa [msAt] using h)
      rwa [show k + 1 + i = k + (i + 1) by omega] at this

theorem VCm.introL (hΘ : ThOk P Θ) {f : Nat} {fn : Func} {c : Code} {ars : List Ar} {bx bx' : List (List V)} {X : V} {ms : Ms} (rl : List (Pl × Pl)) (hf : P.funcs[f]? = some fn) (hb : fn.body = some c) (hnm : (fn.name == "runtime.NumGoroutine") = false) (hn : fn.ntmps = n)
    (hl : Nat.ble ars.length n = true) (hX : roT X = true) (hbx : sameLen bx bx' = true) (hrl : rlOk n rl = true) (h : ∀ B, B.n = n → ∀ hs : List Value, hs.length = ars.length → vsem P B c ⟨slots 0 (entV n ars hs), boxesA n 0 bx⟩ (vendL Θ fn.results.toList X n rl hs ms bx')) : VCm P f ars bx X ms bx' := by
  refine ⟨⟨fn, hf, by rw [hb]; rfl, hnm⟩, hX, hbx, fun g w us hE hK hlen hr => ?_⟩
  obtain ⟨l1, l2, l3⟩ := sameLen_get hbx
  have R := RS.enterM (n := n) hE hK l2 hlen hr (Nat.le_of_ble_eq_true hl)
  refine calls_of_wp hf hb ?_
  rw [hn]
  refine wp_mono (vsem_elim (h (entB n g w bx hK) rfl us hlen) R) ?_
  rintro e a' w' ⟨g', σ', r', k⟩
  have fin : vretL Θ fn.results.toList X n rl us ms bx' σ' → a'.defers = [] ∧ ∃ v, (results fn a'.tmps).run P w' = .ok v w' ∧ ∃ u g'', Ending.returned v = .returned u ∧ SameM bx g w g'' w' ∧ RT g'' aR w' 0 X u ∧
      (∀ (i j s : Nat) xs u, msAt ms i j = some (s, xs) → us[i]? = some u → OwP g'' w' (.sl (lz + i) 0 j) s xs (cellN u j)) ∧ ∀ (k : Nat) cs, bx'[k]? = some cs → RB g'' aR w' k cs := by
    rintro ⟨k1, k2, k3⟩
    obtain ⟨u, mp, X0, m1, m2, m3, m4⟩ := vretC_sound hΘ k1 r'
    have hi : ∀ b, g'.ow b = .imm → (outG3 n ms rl mp g').ow b = .imm := fun b hb => by simp only [outG3, hb]
    have hbo : ∀ b, g'.ow b = .bor → (outG3 n ms rl mp g').ow b = .bor := fun b hb => by simp only [outG3, hb]
    obtain ⟨f1, f2, f3, f4, f5, f6, f7⟩ := r'.1.1
    refine ⟨r'.2.1, u, m1, u, outG3 n ms rl mp g', rfl, ⟨f1, f2, f3, f4, fun b hlt ht => ?_, fun b k cs hlt ht hcs => ?_⟩, RT.wkE m4 (m3.rt hi (fun b q hb hq => by simp only [outG3, hb, hq, cond_true])), ?_, ?_⟩
    · have ht' : (shiftG n g).ow b = .imm ∨ (shiftG n g).ow b = .bor := ht.imp shift_imm.2 shift_bor.2
      obtain ⟨e1, e2⟩ := f5 b hlt ht'
      have e1 : g'.ow b = (shiftG n g).ow b := e1
      refine ⟨?_, e2⟩
      rcases ht with ht | ht
      · rw [ht]; exact hi b (e1.trans (shift_imm.2 ht))
      · rw [ht]; exact hbo b (e1.trans (shift_bor.2 ht))
    · obtain ⟨_, e1, e2, arr0, arr, e, fr, e3, e4, e5, e6⟩ := f6 b (n + k) hlt (shift_bx ht)
      have hkb : Nat.ble n (n + k) = true := Nat.ble_eq_true_of_le (by omega)
      refine ⟨?_, ?_, arr0, arr, e, fr, e3, e4, e5, fun j hj => e6 j ?_⟩
      · simp only [outG3, e2, hkb, cond_true]
        rw [show n + k - n = k by omega]
      · show g'.ad (n + k) = _
        rw [e1]
        obtain ⟨_, h2⟩ := hE.own b k hlt ht
        refine Prod.ext h2.symm ?_
        simp [entB]
      · simp only [entB, show n ≤ n + k by omega, if_true, show n + k - n = k by omega, hcs, Option.getD_some]
        exact hj
    · intro i j s xs u0 hm hu
      obtain ⟨hw, hg⟩ := musOkL_get (k := 0) k2 hm
      rw [Nat.zero_add] at hw hg
      obtain ⟨x, hk1, hk⟩ := r'.plcV hg
      simp only [RC] at hk
      have hD : us.getD i undef = u0 := by simp [List.getD_eq_getElem?_getD, hu]
      have hlent : lentI ms i j = true := by simp only [lentI, hm]
      rw [hk.1, hD] at hk
      refine OwP.tag hk.2 hi (fun b hb => ?_)
      unfold okW at hw
      cases hin : isIn (whereM rl i j) rl with
      | true =>
        simp only [hin, cond_true] at hw
        have hout : isIn (whereM rl i j) mp = false := ckL_out m2 (by simp only [keepL, hin, Bool.true_or])
        simp only [outG3, hb, hout, cond_false, hin, cond_true, Pl.beq_iff.1 hw]
      | false =>
        simp only [hin, cond_false] at hw
        have e := Pl.beq_iff.1 hw
        rw [e] at hb hin
        have hout : isIn (.sl i 0 j) mp = false := ckL_out m2 (by simp only [keepL, keepP, hlent, Nat.beq_refl, Bool.and_self, Bool.or_true])
        simp only [outG3, hb, hout, cond_false, hin, hlent, Nat.beq_refl, Bool.and_self, cond_true]
    · intro k cs hcs
      have hbk := bxsOk_get (k := 0) k3 hcs
      rw [Nat.zero_add] at hbk
      have hkb : Nat.ble n (n + k) = true := Nat.ble_eq_true_of_le (by omega)
      refine okB_rb (List.all_eq_true.2 fun v hv => okX_B (List.all_eq_true.1 (l3 cs (List.mem_of_getElem? hcs)) v hv)) hi hbo (fun b j hb => ?_) (fun hb => ?_) rfl (r'.2.2.2.2 (n + k) cs hbk)
      · have hout : isIn (.bx (n + k) j) mp = false := ckL_out m2 (by simp only [keepL, keepP, hkb, Bool.or_true])
        have hrl' : isIn (.bx (n + k) j) rl = false := rlOk_out hrl (by omega)
        simp only [outG3, hb, hout, hrl', cond_false, hkb, cond_true]
        rw [show n + k - n = k by omega]
      · simp only [outG3, hb, hkb, cond_true]
        rw [show n + k - n = k by omega]
  cases e with
  | ret => exact fin k
  | normal => exact fin k
  | _ => exact k.elim
theorem VCm.introL0 (hΘ : ThOk P Θ) {f : Nat} {fn : Func} {c : Code} {ars : List Ar} {bx bx' : List (List V)} {X : V} {ms : Ms} (rl : List (Pl × Pl)) (hf : P.funcs[f]? = some fn) (hb : fn.body = some c) (hnm : (fn.name == "runtime.NumGoroutine") = false) (hn : fn.ntmps = n)
    (hl : Nat.ble ars.length n = true) (hX : roT X = true) (hbx : sameLen bx bx' = true) (hrl : rlOk n rl = true) (h : ∀ B, B.n = n → ∀ hs : List Value, hs.length = ars.length → vcode P Θ B n c ⟨slots 0 (entV n ars hs), boxesA n 0 bx⟩ (vendL Θ fn.results.toList X n rl hs ms bx')) : VCm P f ars bx X ms bx' :=
  VCm.introL hΘ rl hf hb hnm hn hl hX hbx hrl fun B hB hs hl => vsem_code hΘ hB (h B hB hs hl)
end
end Go.Proofs.YtfdmlccbfbiloaaGreatDoor.Vs
/- The calculus: a drawn order where one operation may also come behind the first of those that come one by one. -/
namespace Go.Proofs.YtfdmlccbfbiloaaGreatDoor.Vs
open Go
variable [Gl]
set_option linter.unusedSectionVars false
section
variable {P : Program} {B : Bs} {g : Gh} {σ : St} {a : Act} {w : World} {Θ : Nat → Option TI} {n : Nat} {o : Oper} {d : Nat}
def ancBut (M : List Nat) (m f : Nat) : Bool := (List.range m).all fun j => isAnc M m j || Nat.beq j f
theorem ancBut_get {M : List Nat} {m f : Nat} (h : ancBut M m f = true) : ∀ j, j < m → j ≠ f → isAnc M m j = true := by
  intro j hj hne
  simp only [ancBut, List.all_eq_true, List.mem_range, Bool.or_eq_true] at h
  rcases h j hj with h | h
  · exact h
  · exact absurd (Nat.eq_of_beq_eq_true h) hne
/-- the m-th, then the f-th, then the rest -/
def swapL (l : List Oper) (m f : Nat) : List Oper := match l[m]?, l[f]? with
  | some x, some y => x :: y :: l.drop (m + 1)
  | _, _ => []
theorem swapL_eq {l : List Oper} {m f : Nat} (hm : m < l.length) (hf : f < l.length) : swapL l m f = l[m] :: l[f] :: l.drop (m + 1) := by
  unfold swapL
  rw [List.getElem?_eq_getElem hm, List.getElem?_eq_getElem hf]
theorem lst_getD {L : Array Bool} {i : Nat} (h : i < L.size) : L.getD i true = Lst L i := by
  unfold Lst
  rw [Array.getD_eq_getD_getElem?, Array.getD_eq_getD_getElem?, Array.getElem?_eq_getElem h]; rfl
theorem step_one {l rest : List Oper} {i : Nat} {Q : Exit → Act → World → Prop} {K : Act → World → Prop} (hi : i < l.length) (h : wpList P l.toArray Q (l[i] :: rest) a w) (hnext : ∀ a w, wpList P l.toArray Q rest a w → K a w) : wpOp P l.toArray Q i K a w := by
  unfold wpList at h
  unfold wpOp
  have e0 : l.toArray[i]? = some l[i] := by simp [hi]
  rw [e0]
  simp only
  split at h
  · rename_i hw
    rw [if_pos hw]
    exact h.imp (Oper.wp_mono hnext) id
  · rename_i hw
    rw [if_neg hw]
    exact hnext _ _ h
theorem vdrawF_intro (hΘ : ThOk P Θ) (hn : B.n = n) (hm : P.follows .mixedOrders = true) {id : Nat} {l : List Oper} {K : St → Prop} (m f0 : Nat) (hml : Nat.blt m l.length = true) (hfm : Nat.blt f0 m = true) (hc : chkM (masks l []) (m + 1) 0 l = true) (hcm : ancBut (masks l []) m f0 = true)
    (h : vaddops P Θ B n l (masks l []) σ 0 (l.take m) [] fun F => chkF (masks l []) σ F = true ∧ (vops P Θ B n l (l.drop m) (stF (fun _ => true) F σ) K ∧ vops P Θ B n l (swapL l m f0) (stF (fun j => !(Nat.beq j f0)) F σ) K)) : vdraw P B id l σ K := by
  have hmlt : m < l.length := Nat.le_of_ble_eq_true hml
  have hml : m ≤ l.length := Nat.le_of_lt hmlt
  have hfm : f0 < m := Nat.le_of_ble_eq_true hfm
  have hcm := ancBut_get hcm
  generalize masks l [] = M at hc h hcm
  obtain ⟨F, ⟨hF, hT, hT2⟩, hlen, ok⟩ := vaddops_sound hΘ h rfl (fun j => by
    by_cases hj : j < m
    · left; rw [Nat.zero_add, List.getElem?_take, if_pos hj]
    · right; simp; omega) trivial
  have hlen : F.length = m := by rw [hlen]; simp; omega
  unfold vdraw
  intro Q g a w r hQ
  refine wp_region_any hm ?_
  have hn0 : nodupF F = true := by simp only [chkF, Bool.and_eq_true] at hF; exact hF.1
  have main : ∀ (fuel : Nat) (L : Array Bool) (g : Gh) (a : Act) (w : World), cntA m L + (l.length - m) ≤ fuel → L.size = l.length → Closed l L → (∀ j, m ≤ j → Lst L j = false) → RS B g (stL L F σ) a w → wpAny P .any l.toArray (Pst B Q) fuel L a w := by
    intro fuel
    have tail : ∀ (fuel : Nat) (L : Array Bool) (g : Gh) (a : Act) (w : World), l.length - m ≤ fuel → L.size = l.length → (∀ j, m ≤ j → Lst L j = false) → (∀ j, j < m → Lst L j = true) → RS B g (stL L F σ) a w → wpAny P .any l.toArray (Pst B Q) fuel L a w := by
      intro fuel L g a w hf hs hT0 hA r
      refine any_tail hc fuel m L a w (by omega) (by omega) hs (fun j => ?_) ?_
      · constructor
        · intro hj
          by_cases hjm : j < m
          · exact ⟨hjm, by omega⟩
          · rw [hT0 j (by omega)] at hj; cases hj
        · intro hj; exact hA j hj.1
      · have r2 : RS B g (stF (fun _ => true) F σ) a w := by
          refine r.ext (fun k => ?_) (fun b cs hb => ?_)
          · rw [get_stF hn0, get_stF hn0]
            cases e : findF F k with
            | none => right; rfl
            | some x =>
              obtain ⟨m1, _⟩ := findF_d e
              have hx := (okF_dst ok x m1).1
              rw [hlen] at hx
              right; simp [hA _ hx]
          · rw [box_stF hn0] at hb ⊢
            cases e : findF F b with
            | none => rw [e] at hb; exact hb
            | some x =>
              obtain ⟨m1, _⟩ := findF_d e
              have hx := (okF_dst ok x m1).1
              rw [hlen] at hx
              rw [e] at hb
              cases hnb : x.nb with
              | none => simp only [hnb] at hb ⊢; exact hb
              | some cs' => simp only [hnb, hA _ hx] at hb ⊢; exact hb
        exact vops_sound hΘ hn hT r2 fun g' σ' a' w' k r' => ⟨g', σ', r', hQ σ' k⟩
    have full : ∀ L : Array Bool, cntA m L = 0 → ∀ j, j < m → Lst L j = true := by
      intro L h0 j hj
      have : (List.range m).filter (fun i => !Lst L i) = [] := List.length_eq_zero_iff.1 h0
      rw [List.filter_eq_nil_iff] at this
      have := this j (List.mem_range.2 hj)
      simpa using this
    induction fuel with
    | zero =>
      intro L g a w hf hs cl hT0 r
      exact tail 0 L g a w (by omega) hs hT0 (full L (by omega)) r
    | succ fuel ih =>
      intro L g a w hf hs cl hT0 r
      by_cases h0 : cntA m L = 0
      · exact tail (fuel + 1) L g a w (by omega) hs hT0 (full L h0) r
      · -- one of the first m has not come
        have hex : ∃ i, i < m ∧ Lst L i = false ∧ ∀ j, j < i → Lst L j = true := by
          have : ∃ i, i < m ∧ Lst L i = false := by
            apply Classical.byContradiction
            intro hno
            apply h0
            show ((List.range m).filter fun i => !Lst L i).length = 0
            rw [List.length_eq_zero_iff, List.filter_eq_nil_iff]
            intro i hi
            have hi := List.mem_range.1 hi
            cases e : Lst L i with
            | true => simp
            | false => exact (hno ⟨i, hi, e⟩).elim
          obtain ⟨i, h1, h2⟩ := this
          induction i using Nat.strongRecOn with
          | _ i ih2 =>
            by_cases hx : ∃ j, j < i ∧ Lst L j = false
            · obtain ⟨j, hj, hjf⟩ := hx
              exact ih2 j hj (by omega) hjf
            · refine ⟨i, h1, h2, fun j hj => ?_⟩
              cases e : Lst L j with
              | true => rfl
              | false => exact (hx ⟨j, hj, e⟩).elim
        have unl : ∀ i, i < l.length → Lst L i = false → L.getD i true = false := by
          intro i hi h
          unfold Lst at h
          rw [Array.getD_eq_getD_getElem?] at h ⊢
          have hi' : L[i]? = some L[i] := Array.getElem?_eq_getElem (by omega)
          rw [hi'] at h ⊢
          exact h
        obtain ⟨i0, hi0, hi0f, hi0b⟩ := hex
        refine ⟨fun hr => ?_, fun i hi => ?_⟩
        · exfalso
          have hil : i0 < l.length := by omega
          have hio : l[i0]? = some l[i0] := List.getElem?_eq_getElem hil
          have : i0 ∈ Region.ready .any l.toArray L := by
            refine ready_iff.2 ⟨hil, unl i0 hil hi0f, l[i0], hio, fun e he => ?_⟩
            obtain ⟨c1, _, _⟩ := chkM_get hc i0 _ hio
            have := c1 e he
            rw [Nat.zero_add] at this
            exact hi0b e this
          rw [hr] at this; cases this
        · obtain ⟨h1, h2, o, h3, h4⟩ := ready_iff.1 hi
          have hanc := anc_lst hc cl i o h3 h4
          by_cases him : i < m
          rotate_left
          · -- the first of those that come one by one, before f0
            have hi0' : i0 = f0 ∧ i = m := by
              by_cases him' : i = m
              · subst him'
                refine ⟨?_, rfl⟩
                apply Classical.byContradiction
                intro hne
                have := hanc i0 (hcm i0 hi0 hne)
                rw [hi0f] at this; cases this
              · obtain ⟨_, _, c3⟩ := chkM_get hc i o h3
                rw [Nat.zero_add] at c3
                have := hanc i0 (c3 (by omega) i0 (by omega))
                rw [hi0f] at this; cases this
            obtain ⟨rfl, rfl⟩ := hi0'
            have hLm : ∀ j, Lst L j = true ↔ j < i ∧ j ≠ i0 := by
              intro j
              constructor
              · intro hj
                refine ⟨Nat.lt_of_not_le fun hle => ?_, fun e => ?_⟩
                · rw [hT0 j hle] at hj; cases hj
                · subst e; rw [hi0f] at hj; cases hj
              · intro hj; exact hanc j (hcm j hj.1 hj.2)
            have hpos : 1 ≤ cntA i L := by omega
            obtain ⟨fuel', rfl⟩ : ∃ k, fuel = k + 1 := ⟨fuel - 1, by omega⟩
            have r2 : RS B g (stF (fun j => !(Nat.beq j i0)) F σ) a w := by
              have hp : ∀ x ∈ F, Lst L x.i = !(Nat.beq x.i i0) := by
                intro x m1
                have hx := (okF_dst ok x m1).1
                rw [hlen] at hx
                by_cases hxi : x.i = i0
                · rw [hxi, hi0f]; simp
                · rw [(hLm x.i).2 ⟨hx, hxi⟩]
                  cases hb : Nat.beq x.i i0 with
                  | false => rfl
                  | true => exact absurd (Nat.eq_of_beq_eq_true hb) hxi
              refine r.ext (fun k => ?_) (fun b cs hb => ?_)
              · rw [get_stF hn0, get_stF hn0]
                cases e : findF F k with
                | none => right; rfl
                | some x =>
                  obtain ⟨m1, _⟩ := findF_d e
                  right; simp only [hp x m1]
              · rw [box_stF hn0] at hb ⊢
                cases e : findF F b with
                | none => rw [e] at hb; exact hb
                | some x =>
                  obtain ⟨m1, _⟩ := findF_d e
                  rw [e] at hb
                  cases hnb : x.nb with
                  | none => simp only [hnb] at hb ⊢; exact hb
                  | some cs' => simp only [hnb, hp x m1] at hb ⊢; exact hb
            have hw := vops_sound (Q := fun e a w => Pst B Q e a w) hΘ hn hT2 r2 fun g' σ' a' w' k r' => ⟨g', σ', r', hQ σ' k⟩
            have hil : i < l.length := hmlt
            have hfl : i0 < l.length := by omega
            rw [swapL_eq hil hfl] at hw
            refine step_one hil hw fun a w hw => ?_
            have cl2 : Closed l (L.setIfInBounds i true) := by
              intro j oj hj hjo e he
              rw [set_lst (by omega)] at hj ⊢
              have : Lst L e = true := by
                by_cases hji : j = i
                · subst hji
                  rw [h3] at hjo
                  injection hjo with hjo
                  subst hjo
                  exact h4 e he
                · rw [if_neg hji] at hj
                  exact cl j oj hj hjo e he
              rw [this]; split <;> rfl
            have hf2 : Lst (L.setIfInBounds i true) i0 = false := by rw [set_lst (by omega), if_neg (by omega)]; exact hi0f
            have unl2 : (L.setIfInBounds i true).getD i0 true = false := by rw [lst_getD (by rw [Array.size_setIfInBounds]; omega)]; exact hf2
            have hrdy2 : i0 ∈ Region.ready .any l.toArray (L.setIfInBounds i true) := by
              refine ready_iff.2 ⟨hfl, unl2, l[i0], List.getElem?_eq_getElem hfl, fun e he => ?_⟩
              obtain ⟨c1, _, _⟩ := chkM_get hc i0 _ (List.getElem?_eq_getElem hfl)
              have := c1 e he
              rw [Nat.zero_add] at this
              rw [set_lst (by omega), (hLm e).2 ⟨by omega, by omega⟩]
              split <;> rfl
            refine ⟨fun h0 => (by rw [h0] at hrdy2; cases hrdy2), fun i2 hi2 => ?_⟩
            have hi2e : i2 = i0 := by
              obtain ⟨g1, g2, o2, g3, g4⟩ := ready_iff.1 hi2
              have hnl2 : Lst (L.setIfInBounds i true) i2 = false := by rw [← lst_getD (by rw [Array.size_setIfInBounds]; omega)]; exact g2
              apply Classical.byContradiction
              intro hne
              by_cases hlt : i2 < i
              · rw [set_lst (by omega), if_neg (by omega), (hLm i2).2 ⟨hlt, hne⟩] at hnl2; cases hnl2
              · by_cases hie : i2 = i
                · rw [hie, set_lst (by omega), if_pos rfl] at hnl2; cases hnl2
                · obtain ⟨_, _, c3⟩ := chkM_get hc i2 o2 g3
                  rw [Nat.zero_add] at c3
                  have := anc_lst hc cl2 i2 o2 g3 g4 i0 (c3 (by omega) i0 (by omega))
                  rw [hf2] at this; cases this
            subst hi2e
            refine step_one hfl hw fun a w hw => ?_
            refine any_tail hc fuel' (i + 1) _ a w (by omega) (by omega) (by simp [hs]) (fun j => ?_) hw
            rw [set_lst (by simp; omega), set_lst (by omega)]
            by_cases hj : j = i2
            · rw [if_pos hj]; simp; omega
            · rw [if_neg hj]
              by_cases hj2 : j = i
              · rw [if_pos hj2]; simp; omega
              · rw [if_neg hj2, hLm j]
                constructor
                · intro h; exact ⟨by omega, by omega⟩
                · intro h; exact ⟨by omega, hj⟩
          have hnl : Lst L i = false := by
            unfold Lst
            rw [Array.getD_eq_getD_getElem?] at h2 ⊢
            have hi' : L[i]? = some L[i] := Array.getElem?_eq_getElem (by omega)
            rw [hi'] at h2 ⊢
            exact h2
          obtain ⟨f, G, f1, rfl, ⟨o', f3, f4, f5, f6⟩, f7, f8⟩ := okF_get ok i (by omega)
          rw [h3] at f3
          injection f3 with f3
          subst f3
          have rA := RS.anc hF f7 (f8 hn0) hanc r
          have hfd : f.d < B.n := by rw [hn]; exact f5
          have cl' : Closed l (L.setIfInBounds f.i true) := by
            intro j oj hj hjo e he
            rw [set_lst (by omega)] at hj ⊢
            have : Lst L e = true := by
              by_cases hji : j = f.i
              · subst hji
                rw [h3] at hjo
                injection hjo with hjo
                subst hjo
                exact h4 e he
              · rw [if_neg hji] at hj
                exact cl j oj hj hjo e he
            rw [this]; split <;> rfl
          have hcnt : cntA m (L.setIfInBounds f.i true) + (l.length - m) ≤ fuel := by
            have : cntA m (L.setIfInBounds f.i true) < cntA m L := by
              refine filter_lt (fun x hx => ?_) (List.mem_range.2 him) (by simp [hnl]) (by rw [set_lst (by omega)]; simp)
              rw [set_lst (by omega)] at hx
              split at hx
              · simp at hx
              · exact hx
            omega
          have hT1 : ∀ j, m ≤ j → Lst (L.setIfInBounds f.i true) j = false := by
            intro j hj
            rw [set_lst (by omega), if_neg (by omega)]
            exact hT0 j hj
          have go : ∀ u g' w', Grow f.d f.nb.isSome g w g' w' → RT g' a w' f.d f.v u → (∀ cs, f.nb = some cs → RB g' a w' f.d cs) → wpAny P .any l.toArray (Pst B Q) fuel (L.setIfInBounds f.i true) (a.put o.dst u) w' := by
            intro u g' w' G' ht hb
            rw [f4]
            exact ih _ g' _ w' hcnt (by simp [hs]) cl' hT1 (RS.come hc hs cl hF ok f1 h3 f4 hfd hnl r G' ht hb)
          unfold wpOp
          have e0 : l.toArray[f.i]? = some o := by simpa using h3
          rw [e0]
          simp only
          rcases f6 with ⟨A, hw⟩ | ⟨hv, hnb, hw⟩
          · rw [if_pos (hw g a w rA)]
            left
            rcases A g a w rA with ⟨u, w', k1, g', k2, k3, k4⟩ | ⟨fn, us, k1, k2⟩
            · unfold Oper.wp
              rw [k1]
              exact go u g' w' k2 k3 k4
            · unfold Oper.wp
              rw [k1]
              refine k2.mono ?_
              rintro e w' ⟨u, rfl, g', k2, k3, k4⟩
              exact go u g' w' k2 k3 k4
          · rw [if_neg (by rw [hw g a w rA]; simp)]
            refine go undef g w Grow.refl ?_ (fun cs e => by rw [hnb] at e; cases e)
            rw [hv]
            exact ⟨#[], rfl, rfl, fun i v x h => by simp at h⟩
  refine main _ _ g a { w with drawn := w.drawn + 1 } ?_ (by simp) (fun i o hi => by rw [lst_fresh] at hi; cases hi) (fun j _ => lst_fresh) ?_
  · show cntA m _ + _ ≤ l.toArray.size
    have : cntA m (Array.replicate l.toArray.size false) ≤ m := by
      unfold cntA
      refine Nat.le_trans (List.length_filter_le _ _) ?_
      simp
    simp only [List.size_toArray] at this ⊢
    omega
  · have r' : RS B g σ a { w with drawn := w.drawn + 1 } := r.cq ⟨rfl, rfl, rfl, Nat.le_refl _, fun _ _ => rfl⟩
    refine r'.ext (fun k => ?_) (fun b cs hb => ?_)
    · right
      rw [get_stF hn0]
      cases e : findF F k with
      | none => rfl
      | some x => simp [lst_fresh]
    · rw [box_stF hn0] at hb
      cases e : findF F b with
      | none => rw [e] at hb; exact hb
      | some x =>
        rw [e] at hb
        cases hnb : x.nb with
        | none => simp only [hnb] at hb; exact hb
        | some cs' => simp only [hnb, lst_fresh] at hb; exact hb
/-- both ways come to τ -/
theorem vdraw_cut {id : Nat} {l : List Oper} {τ : St} {K : St → Prop} (h : vdraw P B id l σ fun σ' => Sub σ' τ) (k : K τ) : vdraw P B id l σ K := by
  unfold vdraw at h ⊢
  intro Q g a w r hQ
  refine wp_mono (h (fun e σ' => e = .normal ∧ Sub σ' τ) g a w r fun σ' hs => ⟨rfl, hs⟩) ?_
  rintro e a' w' ⟨g', σ', r', rfl, hs⟩
  exact ⟨g', τ, r'.sub hs, hQ τ k⟩
end
end Go.Proofs.YtfdmlccbfbiloaaGreatDoor.Vs
/- The calculus: contracts out of what is known of a library function: results of several values, facts of package variables. -/
namespace Go.Proofs.YtfdmlccbfbiloaaGreatDoor.Vs
open Go Go.RowKit
variable [Gl]
set_option linter.unusedSectionVars false
section
variable {P : Program}
theorem vals_eq {g : Gh} {a : Act} {w : World} {xs us : List Value} (hl : us.length = (xs.map V.val).length) (hr : ∀ (i : Nat) v u, (xs.map V.val)[i]? = some v → us[i]? = some u → RT g a w i v u) : us = xs := by
  apply List.ext_getElem?
  intro i
  rcases Nat.lt_or_ge i us.length with hi | hi
  · have hi' : i < xs.length := by simpa [hl] using hi
    have h1 : (xs.map V.val)[i]? = some (.val xs[i]) := by rw [List.getElem?_map, List.getElem?_eq_getElem hi']; rfl
    have h2 := hr i _ us[i] h1 (List.getElem?_eq_getElem hi)
    rw [List.getElem?_eq_getElem hi, List.getElem?_eq_getElem hi']
    rw [h2.1]
  · rw [List.getElem?_eq_none hi, List.getElem?_eq_none (by rw [hl] at hi; simpa using hi)]
theorem vals_pf (xs : List Value) : (xs.map V.val).all pfA = true := by
  rw [List.all_eq_true]
  intro v hv
  obtain ⟨y, _, rfl⟩ := List.mem_map.1 hv
  rfl
theorem VC.of_valsG {f : Nat} {fn : Func} {xs : List Value} {x : Value} (hf : P.funcs[f]? = some fn) (hb : fn.body.isNone = false) (hnm : (fn.name == "runtime.NumGoroutine") = false) (hx : x.oneCell' = true)
    (h : ∀ ow w, GOk ow w → Calls P f ⟨xs⟩ w fun e w' => e = .returned x ∧ Below w.heap.size w w') : VC P f (xs.map .val) (.val x) := by
  refine ⟨⟨fn, hf, hb, hnm⟩, vals_pf xs, rfl, fun g w us hg hk hl hr => ?_⟩
  obtain rfl := vals_eq hl hr
  refine (h g.ow w hk).mono ?_
  rintro e w' ⟨rfl, hB⟩
  exact ⟨x, g, rfl, ⟨hB.os, hB.tape, hB.output, hB.size, fun b hb => ⟨rfl, hB.block b hb⟩⟩, rfl, hx⟩
theorem VC.of_tupG {f : Nat} {fn : Func} {xs ys : List Value} (hf : P.funcs[f]? = some fn) (hb : fn.body.isNone = false) (hnm : (fn.name == "runtime.NumGoroutine") = false) (hy : (ys.all fun y => y.oneCell') = true)
    (h : ∀ ow w, GOk ow w → Calls P f ⟨xs⟩ w fun e w' => e = .returned (.tuple ⟨ys⟩) ∧ Below w.heap.size w w') : VC P f (xs.map .val) (.tup (ys.map .val)) := by
  refine ⟨⟨fn, hf, hb, hnm⟩, vals_pf xs, ?_, fun g w us hg hk hl hr => ?_⟩
  · show (ys.map V.val).all roG = true
    rw [List.all_eq_true]
    intro v hv
    obtain ⟨y, _, rfl⟩ := List.mem_map.1 hv
    rfl
  obtain rfl := vals_eq hl hr
  refine (h g.ow w hk).mono ?_
  rintro e w' ⟨rfl, hB⟩
  refine ⟨_, g, rfl, ⟨hB.os, hB.tape, hB.output, hB.size, fun b hb => ⟨rfl, hB.block b hb⟩⟩, ⟨ys⟩, rfl, by simp, fun i v x hv hx => ?_⟩
  rw [List.getElem?_map] at hv
  have hx' : ys[i]? = some x := by simpa using hx
  rw [hx'] at hv
  simp only [Option.map_some, Option.some.injEq] at hv
  subst hv
  exact ⟨rfl, by rw [List.all_eq_true] at hy; exact hy x (List.mem_of_getElem? hx')⟩
end
end Go.Proofs.YtfdmlccbfbiloaaGreatDoor.Vs
/- A row's call, its world's shape and its listed variables at hand. -/
namespace Go.Proofs.YtfdmlccbfbiloaaGreatDoor.Vs
open Go
variable {H : Type} {enc : TypeId × Value → H}
/-- what a row gives at its call: the arguments, what is listed, the world's shape -/
theorem handed_shaped {a : Assume} {C : Checked} {os : Os} {f : FuncId} {fn : Func} {s : ChangeSpec} {conds : List PathCond} {apart fresh handsOn again : Bool} {X : World → Array Value → Prop}
    (hX : ∀ (w w' : World) (args : Array Value), w.heap = w'.heap → X w args → X w' args)
    (own : ownKnob C.prog.godebug = none) (started : os.Started) (noInit : C.prog.inits.idxOf? f = none) (hfn : C.prog.funcs[f]? = some fn)
    (witness : ∃ (w : World) (tape : Tape) (i : Input), w.os = os ∧ (w.forCall tape i).Shaped C.prog ∧ i.vars = [] ∧ Input.okWide C.prog (w.forCall tape i) .any w.heap.size f i ∧
      ((s.pre enc C.prog fn conds apart (w.forCall tape i).memory i.args ∧ X (w.forCall tape i).memory i.args) ∧ sizedMet enc C.prog fn (OpenSpec.ofChange s) apart (w.forCall tape i).memory i.args) ∧ a.holds C.prog (lone (Frame.enter C.prog f i.args .normal) [] (w.forCall tape i)))
    (go : ∀ (W : World) (base : Nat) (args : Array Value) (ds gs : List (DataW H)) (before : List MemPlace), W.ShapedOpen C.prog → X W args →
      (∀ (j : Nat) t v, fn.params[j]? = some t → args[j]? = some v → Value.okWide C.prog W .any base t v) → DataW.Whole enc C.prog fn.params.toList s.vars apart W args.toList ds gs before →
      (DataW.weightsEach C.prog (fn.params.toList ++ s.plain.varTypes C.prog) (ds ++ gs)).all (· ≤ reachBytes) = true →
      Calls C.prog f args W fun e W' => ∃ v, e = .returned v ∧ s.post enc C.prog fn apart fresh handsOn again W args v W') :
    ReturnsInHanded a C os f .any (fun w args => (s.pre enc C.prog fn conds apart w args ∧ X w args) ∧ sizedMet enc C.prog fn (OpenSpec.ofChange s) apart w args) (s.post enc C.prog fn apart fresh handsOn again) :=
  returnsInHanded_of_calls own started noInit witness fun w tape i _ hsh _ hok hpre _ => by
    obtain ⟨⟨⟨ds, gs, before, hw, _⟩, hx⟩, hz⟩ := hpre
    have hval := hok.2.2.2
    obtain ⟨fn', hfn', hrest⟩ := hval
    obtain rfl : fn' = fn := Option.some.inj (hfn'.symm.trans hfn)
    refine (go (w.forCall tape i) w.heap.size i.args ds gs before hsh (hX _ _ _ (by rfl) hx) hrest.2.2.2.2 (DataW.Whole.of_heap (w' := w.forCall tape i) (by rfl) hw) (hz.weights hw)).mono fun e W' hp => ?_
    obtain ⟨v, rfl, hp⟩ := hp
    exact ChangeSpec.post_blind hp
end Go.Proofs.YtfdmlccbfbiloaaGreatDoor.Vs
/- The calculus: contracts of library functions that hand back a new list of texts. -/
namespace Go.Proofs.YtfdmlccbfbiloaaGreatDoor.Vs
open Go Go.RowKit
variable [Gl]
set_option linter.unusedSectionVars false
section
variable {P : Program}
theorem owE_strs {I : Nat → Prop} {w : World} : ∀ (ys : List ByteArray) (l : List Value), (∀ (j : Nat) s, ys[j]? = some s → l[j]? = some (.string s)) → OwE I w 1 (ys.map strC) l []
  | [], _, _ => by simp [OwE]
  | s :: ys, l, h => by
    have h0 := h 0 s rfl
    obtain ⟨u, r, rfl⟩ : ∃ u r, l = u :: r := by
      cases l with
      | nil => cases h0
      | cons u r => exact ⟨u, r, rfl⟩
    have h0 : u = .string s := Option.some.inj h0
    subst h0
    simp only [List.map_cons, OwE]
    refine ⟨rfl, [], [], rfl, ?_, owE_strs ys _ fun j x hj => h (j + 1) x hj⟩
    simp only [strC, OwL, Ow]
    exact ⟨_, _, [], [], rfl, rfl, ⟨⟨rfl, rfl⟩, rfl⟩, rfl⟩
theorem VC.of_strsOut {f : Nat} {fn : Func} {xs : List Value} {ys : List ByteArray} (hf : P.funcs[f]? = some fn) (hb : fn.body.isNone = false) (hnm : (fn.name == "runtime.NumGoroutine") = false)
    (h : ∀ ow w, GOk ow w → Calls P f ⟨xs⟩ w fun e w' => ∃ (arr : Array Value) (t : TypeId) (cap : Nat), e = .returned (.slice (some ⟨w.heap.size, 0, none⟩) ys.length cap) ∧ ys.length ≤ cap ∧ cap ≤ cap63 ∧ arr.size = cap ∧
      (∀ (j : Nat) s, ys[j]? = some s → arr[j]? = some (.string s)) ∧ w' = w.alloc (.cells arr t)) : VC P f (xs.map .val) (.own 1 (ys.map strC)) := by
  refine ⟨⟨fn, hf, hb, hnm⟩, vals_pf xs, rfl, fun g w us hg hk hl hr => ?_⟩
  obtain rfl := vals_eq hl hr
  refine (h g.ow w hk).mono ?_
  rintro e w' ⟨arr, t, cap, rfl, h1, h2, h3, h4, rfl⟩
  have hold : ∀ b, b < w.heap.size → (w.alloc (.cells arr t)).heap[b]? = w.heap[b]? := fun b hb => by
    show (w.heap.push _)[b]? = _
    rw [Array.getElem?_push, if_neg (by omega)]
  refine ⟨_, ⟨fun b => if b = w.heap.size then .pl (.sl 0 0 0) else g.ow b, g.ad⟩, rfl, ⟨rfl, rfl, rfl, ?_, fun b hb => ⟨if_neg (by omega), hold b hb⟩⟩, ?_⟩
  · show _ ≤ (w.heap.push _).size
    simp
  · show OwP _ _ _ _ _ _
    refine ⟨[w.heap.size], ?_, by simp, fun b hb => by
      rw [List.mem_singleton.1 hb]
      exact if_pos rfl⟩
    simp only [Ow]
    refine .inr ⟨w.heap.size, arr, t, cap, [], (0, 0), ?_, ?_, h2, ?_, .inl rfl, by rw [h3, Nat.mul_one], ?_, rfl⟩
    · simp
    · simpa using h1
    · show (w.heap.push _)[w.heap.size]? = _
      simp
    · exact owE_strs ys _ fun j s hj => by simpa using h4 j s hj
end
end Go.Proofs.YtfdmlccbfbiloaaGreatDoor.Vs
