import Derived.Test.YtfdmlccbfbiloaaGreatDoorSa
import Derived.Lib.ItoaNum
import Derived.Lib.IndexMore
import Derived.Lib.SlTrimSet
import Derived.Lib.Strings
import Derived.Lib.ParseIntB
import Derived.Lib.ParseIntBCases
namespace Go.Proofs.YtfdmlccbfbiloaaGreatDoor
open Go Go.Proofs.YtfdmlccbfbiloaaGreatDoor.Vs
variable [Gl]
set_option linter.unusedSectionVars false

set_option maxRecDepth 100000 in
theorem hitsI_c (p : Prg) (o : Obj) (ho : o.ok) (hg : fieldsOk o.r.fs = true) (hJ : (Lib.join (hitsOf tagN o.r.fs) comma).length ≤ 140737488355328) : VC Tryz.prog 52 [p.vs, o.rd] (.val (.bool (p.hits o))) := by
  refine VC.intro hΘ Tryz.func52 rfl rfl Tryz.ntmps52 rfl rfl rfl fun B hB => ?_
  (conv => whnf)
  refine brm_eq (fun h1 => ?_) (fun h1 => ?_) <;> (conv => whnf)
  · exact vfin_bool (by rw [Prg.hits, if_pos h1])
  refine brm_eq (fun h2 => ?_) (fun h2 => ?_) <;> (conv => whnf)
  · have c1 := getI_c o.r.fs tagN ho.2.2.1.2 (by decide) hg
    have hT : p.hits o = (itemsB (Lib.join (hitsOf tagN o.r.fs) comma)).any fun n => sb p.t == sb n := by
      rw [Prg.hits, if_neg h1, if_pos h2]
      congr 1
      funext n
      rw [Bool.eq_iff_iff]; simp only [beq_iff_eq]; exact eq_comm
    rw [hT]
    unfold getV at c1
    generalize decide (hitsOf tagN o.r.fs ≠ []) = b0 at c1
    generalize Lib.join (hitsOf tagN o.r.fs) comma = J at c1 hJ ⊢
    refine vcallS_intro0 rfl c1 (f1 (ar rfl rfl) (f1 (av rfl) f0)) ?_
    (conv => whnf)
    have c2 := itemsI_c (bs J) (by rw [sb_bs]; exact hJ)
    rw [sb_bs] at c2
    have hcnt := itemsB_cnt J
    generalize itemsB J = L at hcnt c2 ⊢
    refine vdrawG_intro hΘ hB mixed 5 rfl rfl ?_
    (conv => whnf)
    refine vcallA_intro0 rfl c2 (f1 (av rfl) f0) ?_
    (conv => whnf)
    refine vcallA_intro0 rfl (containsStr_c p.t L (by omega)) (f1 (ah rfl rfl rfl) (f1 (av rfl) f0)) ?_
    (conv => whnf)
    refine ⟨rfl, ?_⟩
    (conv => whnf)
    exact vfin_bool rfl
  refine brm_eq (fun h3 => ?_) (fun h3 => ?_) <;> (conv => whnf)
  · refine vcallS_intro0 rfl (hasPrefix_c o.key p.t) (f1 (av rfl) (f1 (av rfl) f0)) ?_
    (conv => whnf)
    exact vfin_bool (by rw [Prg.hits, if_neg h1, if_neg h2, if_pos h3])
  · exact vfin_bool (by rw [Prg.hits, if_neg h1, if_neg h2, if_neg h3])

/-! #### both -/
def hitsAll (p : Prg) (o : Obj) : Bool := (p.good && o.good) && p.hits o
theorem tagJoin_len {xs : List Fd} (h : fieldsOk xs = true) : (Lib.join (hitsOf tagN xs) comma).length ≤ 140737488355328 := by
  refine Nat.le_trans (join_len (hits_short h)) ?_
  have h1 := fieldsOk_len h
  have h2 := hitsB_len tagN xs
  rw [← hitsB_of, List.length_map]
  omega
theorem hitsIm_c (p : Prg) (o : Obj) (hp : (sb p.t).length ≤ 140737488355328) (ho : o.ok) : VC Tryz.prog 16 [p.vs, o.rd] (.val (.bool (hitsAll p o))) := by
  refine VC.intro hΘ Tryz.func16 rfl rfl Tryz.ntmps16 rfl rfl rfl fun B hB => ?_
  (conv => whnf)
  refine call_bb rfl (purgeOkI_c p hp) (f1 (fa (l1 (fv rfl) (l1 (fv rfl) l0))) f0) (fun h1 => ?_) (fun h1 => ?_) <;> (conv => whnf)
  rotate_left
  · exact vfin_bool (by rw [hitsAll, h1]; rfl)
  refine call_bb rfl (objectOkI_c o ho) (f1 (fa (l1 (fv rfl) (l1 (fr rfl rfl) (l1 (fv rfl) (l1 (fr rfl rfl) (l1 (fv rfl) (l1 (fv rfl) (l1 (fv rfl) (l1 (fv rfl) l0))))))))) f0) (fun h2 => ?_) (fun h2 => ?_) <;> (conv => whnf)
  rotate_left
  · exact vfin_bool (by rw [hitsAll, h1, h2]; rfl)
  have hg := (good_fs h2).2
  refine vcallS_intro0 rfl (hitsI_c p o ho hg (tagJoin_len hg)) (f1 (fa (l1 (fv rfl) (l1 (fv rfl) l0))) (f1 (fa (l1 (fv rfl) (l1 (fr rfl rfl) (l1 (fv rfl) (l1 (fr rfl rfl) (l1 (fv rfl) (l1 (fv rfl) (l1 (fv rfl) (l1 (fv rfl) l0))))))))) f0)) ?_
  (conv => whnf)
  exact vfin_bool (by rw [hitsAll, h1, h2]; rfl)
theorem hitsSp_c (p : Prg) (o : Obj) (m : Nat) (hp : (sb p.t).length ≤ 140737488355328) (ho : o.ok) (hv : ∀ x ∈ o.r.fs, (sb x.2).length ≤ m) (hl : o.r.fs.length * (m + 2) ≤ 4222124650659900) : VC Tryz.prog 13 [p.vs, o.rd] (.val (.bool (hitsAll p o))) := by
  refine VC.intro hΘ Tryz.func13 rfl rfl Tryz.ntmps13 rfl rfl rfl fun B hB => ?_
  (conv => whnf)
  refine call_bb rfl (purgeOkS_c p hp) (f1 (fa (l1 (fv rfl) (l1 (fv rfl) l0))) f0) (fun h1 => ?_) (fun h1 => ?_) <;> (conv => whnf)
  rotate_left
  · exact vfin_bool (by rw [hitsAll, h1]; rfl)
  refine call_bb rfl (objectOkS_c o m ho hv hl) (f1 (fa (l1 (fv rfl) (l1 (fr rfl rfl) (l1 (fv rfl) (l1 (fr rfl rfl) (l1 (fv rfl) (l1 (fv rfl) (l1 (fv rfl) (l1 (fv rfl) l0))))))))) f0) (fun h2 => ?_) (fun h2 => ?_) <;> (conv => whnf)
  rotate_left
  · exact vfin_bool (by rw [hitsAll, h1, h2]; rfl)
  have hg := (good_fs h2).2
  refine vcallS_intro0 rfl (l15Hits_c p o hp ho hg (tagJoin_len hg)) (f1 (fa (l1 (fv rfl) (l1 (fv rfl) l0))) (f1 (fa (l1 (fv rfl) (l1 (fr rfl rfl) (l1 (fv rfl) (l1 (fr rfl rfl) (l1 (fv rfl) (l1 (fv rfl) (l1 (fv rfl) (l1 (fv rfl) l0))))))))) f0)) ?_
  (conv => whnf)
  exact vfin_bool (by rw [hitsAll, h1, h2]; rfl)

/-! #### the law's own -/
theorem szPurge_c (p : Prg) (l : Int) (h1 : 0 ≤ l) (h2 : l ≤ 1048576) (hp : (sb p.t).length ≤ 140737488355328) : VC Tryz.prog 11 [p.vs, .val (.int .i64 l)] (.val (.int .i64 (if l - (sb p.t).length < 0 then -1 else l - (sb p.t).length))) := by
  refine VC.intro hΘ Tryz.func11 rfl rfl Tryz.ntmps11 rfl rfl rfl fun B hB => ?_
  (conv => whnf)
  have hw : IntKind.i64.wrap (l - (sb p.t).length) = l - (sb p.t).length := wrap_i64 (by omega) (by omega)
  rw [hw]
  refine brm_p (fun h => ?_) (fun h => ?_) <;> (conv => whnf)
  · exact vfin_int (by rw [if_pos h])
  · exact vfin_int (by rw [if_neg h])
theorem toPurge_c (p : Prg) : VC Tryz.prog 14 [p.vs] p.vs := by
  refine VC.intro hΘ Tryz.func14 rfl rfl Tryz.ntmps14 rfl rfl rfl fun B hB => ?_
  (conv => whnf)
  exact vfin_agg rfl
end Go.Proofs.YtfdmlccbfbiloaaGreatDoor
namespace Go.Proofs.YtfdmlccbfbiloaaGreatDoor
open Go Go.Proofs.YtfdmlccbfbiloaaGreatDoor.Vs
variable [Gl]
set_option linter.unusedSectionVars false

/-! #### dates (no program here) -/
structure Dt where
  y : Int
  mo : Int
  d : Int
  h : Int
  mi : Int
  s : Int
def Dt.v (x : Dt) : V := .agg [.val (.int .i64 x.y), .val (.int .i64 x.mo), .val (.int .i64 x.d), .val (.int .i64 x.h), .val (.int .i64 x.mi), .val (.int .i64 x.s)]
def Dt.z : Dt := ⟨0, 0, 0, 0, 0, 0⟩
def leap (y : Int) : Bool := (y.tmod 4 == 0 && !(y.tmod 100 == 0)) || y.tmod 400 == 0
def mdays (y m : Int) : Int := if m = 4 ∨ m = 6 ∨ m = 9 ∨ m = 11 then 30 else if m = 2 then (if leap y then 29 else 28) else 31
def Dt.ok (x : Dt) : Bool := ((((inR x.y 1970 9999 && inR x.mo 1 12) && inR x.d 1 (mdays x.y x.mo)) && inR x.h 0 23) && inR x.mi 0 59) && inR x.s 0 59
def ydays (y : Int) : Int := 365 * (y - 1970) + (y - 1).tdiv 4 - (y - 1).tdiv 100 + (y - 1).tdiv 400 - 477
/-- the days of the first k months -/
def msum (y : Int) : Nat → Int
  | 0 => 0
  | k + 1 => msum y k + mdays y (k + 1)
def Dt.days (x : Dt) : Int := ydays x.y + x.d - 1 + msum x.y (x.mo.toNat - 1)
def Dt.moment (x : Dt) : Int := if x.ok then x.days * 86400 + x.h * 3600 + x.mi * 60 + x.s else -1
theorem mdays_le (y m : Int) : 28 ≤ mdays y m ∧ mdays y m ≤ 31 := by unfold mdays; split; omega; split; split <;> omega; omega
theorem msum_le (y : Int) : ∀ k, 0 ≤ msum y k ∧ msum y k ≤ 31 * k
  | 0 => by simp [msum]
  | k + 1 => by have := msum_le y k; have := mdays_le y (k + 1); simp only [msum]; omega
theorem ydays_le {y : Int} (h1 : 1970 ≤ y) (h2 : y ≤ 9999) : 0 ≤ ydays y ∧ ydays y ≤ 4000000 := by
  unfold ydays
  rw [Int.tdiv_eq_ediv_of_nonneg (by omega), Int.tdiv_eq_ediv_of_nonneg (by omega), Int.tdiv_eq_ediv_of_nonneg (by omega)]
  omega
theorem ok_iff {x : Dt} : x.ok = true ↔ (1970 ≤ x.y ∧ x.y ≤ 9999) ∧ (1 ≤ x.mo ∧ x.mo ≤ 12) ∧ (1 ≤ x.d ∧ x.d ≤ mdays x.y x.mo) ∧ (0 ≤ x.h ∧ x.h ≤ 23) ∧ (0 ≤ x.mi ∧ x.mi ≤ 59) ∧ 0 ≤ x.s ∧ x.s ≤ 59 := by
  simp only [Dt.ok, inR, Bool.and_eq_true, decide_eq_true_eq, and_assoc]
theorem days_le {x : Dt} (h : x.ok = true) : 0 ≤ x.days ∧ x.days ≤ 5000000 := by
  obtain ⟨h1, h2, h3, _⟩ := ok_iff.1 h
  have := ydays_le h1.1 h1.2
  have := msum_le x.y (x.mo.toNat - 1)
  have := mdays_le x.y x.mo
  unfold Dt.days
  omega
/-- a digit -/
def dgt (n : Int) : UInt8 := UInt8.ofNat (48 + n.toNat)
def two (n : Int) : List UInt8 := [dgt (n / 10 % 10), dgt (n % 10)]
def wkT : List UInt8 := [83, 117, 110, 77, 111, 110, 84, 117, 101, 87, 101, 100, 84, 104, 117, 70, 114, 105, 83, 97, 116]
def moT : List UInt8 := [74, 97, 110, 70, 101, 98, 77, 97, 114, 65, 112, 114, 77, 97, 121, 74, 117, 110, 74, 117, 108, 65, 117, 103, 83, 101, 112, 79, 99, 116, 78, 111, 118, 68, 101, 99]
def at3 (t : List UInt8) (k : Nat) : List UInt8 := [t.getD (3 * k + 0) 0, t.getD (3 * k + 1) 0, t.getD (3 * k + 2) 0]
def mk29 (w0 w1 w2 d1 d2 m0 m1 m2 y1 y2 y3 y4 h1 h2 i1 i2 s1 s2 : UInt8) : List UInt8 := [w0, w1, w2, 44, 32, d1, d2, 32, m0, m1, m2, 32, y1, y2, y3, y4, 32, h1, h2, 58, i1, i2, 58, s1, s2, 32, 71, 77, 84]
def g3 (t : List UInt8) (k j : Nat) : UInt8 := t.getD (3 * k + j) 0
def Dt.wd (x : Dt) : Nat := ((x.days + 4) % 7).toNat
def Dt.show (x : Dt) : List UInt8 :=
  mk29 (g3 wkT x.wd 0) (g3 wkT x.wd 1) (g3 wkT x.wd 2) (dgt (x.d / 10 % 10)) (dgt (x.d % 10)) (g3 moT (x.mo.toNat - 1) 0) (g3 moT (x.mo.toNat - 1) 1) (g3 moT (x.mo.toNat - 1) 2)
    (dgt (x.y / 100 / 10 % 10)) (dgt (x.y / 100 % 10)) (dgt (x.y / 10 % 10)) (dgt (x.y % 10)) (dgt (x.h / 10 % 10)) (dgt (x.h % 10)) (dgt (x.mi / 10 % 10)) (dgt (x.mi % 10)) (dgt (x.s / 10 % 10)) (dgt (x.s % 10))
theorem show_len (x : Dt) : x.show.length = 29 := rfl

/-! #### digits -/
def isDg (b : UInt8) : Bool := isDigit b.toNat
def numL (l : List UInt8) : Nat := l.foldl (fun n b => n * 10 + (b.toNat - 48)) 0
def digits (l : List UInt8) : Option Int := if ((decide (1 ≤ l.length) && decide (l.length ≤ 15)) && l.all isDg) = true then some (numL l : Int) else none
theorem dgt_dg {n : Int} (h0 : 0 ≤ n) (h1 : n ≤ 9) : (dgt n).toNat = 48 + n.toNat := by
  unfold dgt; rw [UInt8.toNat_ofNat']; omega
theorem isDg_dgt {n : Int} (h0 : 0 ≤ n) (h1 : n ≤ 9) : isDg (dgt n) = true := by
  unfold isDg isDigit; rw [dgt_dg h0 h1]; simp; omega
theorem digits_two {n : Int} (h0 : 0 ≤ n) (h1 : n ≤ 99) : digits (two n) = some n := by
  have e1 := isDg_dgt (n := n / 10 % 10) (by omega) (by omega)
  have e2 := isDg_dgt (n := n % 10) (by omega) (by omega)
  have d1 := dgt_dg (n := n / 10 % 10) (by omega) (by omega)
  have d2 := dgt_dg (n := n % 10) (by omega) (by omega)
  unfold digits two
  rw [if_pos (by simp [e1, e2])]
  simp only [numL, List.foldl_cons, List.foldl_nil, d1, d2, Option.some.injEq]
  omega
theorem digits_four {n : Int} (h0 : 0 ≤ n) (h1 : n ≤ 9999) : digits (two (n / 100) ++ two n) = some n := by
  have e1 := isDg_dgt (n := n / 100 / 10 % 10) (by omega) (by omega)
  have e2 := isDg_dgt (n := n / 100 % 10) (by omega) (by omega)
  have e3 := isDg_dgt (n := n / 10 % 10) (by omega) (by omega)
  have e4 := isDg_dgt (n := n % 10) (by omega) (by omega)
  have d1 := dgt_dg (n := n / 100 / 10 % 10) (by omega) (by omega)
  have d2 := dgt_dg (n := n / 100 % 10) (by omega) (by omega)
  have d3 := dgt_dg (n := n / 10 % 10) (by omega) (by omega)
  have d4 := dgt_dg (n := n % 10) (by omega) (by omega)
  unfold digits two
  rw [if_pos (by simp [e1, e2, e3, e4])]
  simp only [numL, List.cons_append, List.nil_append, List.foldl_cons, List.foldl_nil, d1, d2, d3, d4, Option.some.injEq]
  omega
theorem numL_snoc (l : List UInt8) (b : UInt8) : numL (l ++ [b]) = numL l * 10 + (b.toNat - 48) := by simp [numL]
theorem numF_lt : ∀ (l : List UInt8) (acc k : Nat), acc < 10 ^ k → l.all isDg = true → l.foldl (fun n b => n * 10 + (b.toNat - 48)) acc < 10 ^ (k + l.length)
  | [], acc, k, h, _ => h
  | b :: r, acc, k, h, hl => by
    rw [List.all_cons, Bool.and_eq_true] at hl
    have h2 : isDg b = true := hl.1
    simp only [isDg, isDigit, Bool.and_eq_true, decide_eq_true_eq] at h2
    have := numF_lt r (acc * 10 + (b.toNat - 48)) (k + 1) (by rw [Nat.pow_succ]; omega) hl.2
    rw [List.foldl_cons, List.length_cons, show k + (r.length + 1) = k + 1 + r.length by omega]
    exact this
theorem numL_lt (l : List UInt8) (h : l.all isDg = true) : numL l < 10 ^ l.length := by
  have := numF_lt l 0 0 (by decide) h
  rwa [Nat.zero_add] at this

/-! #### what is read -/
def cutL (s : List UInt8) (f t : Nat) : List UInt8 := (s.drop f).take (t - f)
def monS (w : List UInt8) : Nat → Int
  | 0 => 0
  | k + 1 => if at3 moT k = w then (k + 1 : Int) else monS w k
/-- as the reference reads it -/
def parS (s : List UInt8) : Dt :=
  let n := fun p => (digits (cutL s p (p + 2))).getD 0
  ⟨100 * n 12 + n 14, monS (cutL s 8 11) 12, n 5, n 17, n 20, n 23⟩
/-- as the program reads it -/
def parI (s : List UInt8) : Dt :=
  let n := fun f t => (digits (cutL s f t)).getD (-1)
  ⟨n 12 16, (Lib.index moT (cutL s 8 11)).tdiv 3 + 1, n 5 7, n 17 19, n 20 22, n 23 25⟩
def Dt.shows (x : Dt) (s : List UInt8) : Bool := x.ok && x.show == s
theorem monS_at : ∀ k : Nat, k < 12 → monS (at3 moT k) 12 = (k : Int) + 1 := by decide +kernel
theorem index_at : ∀ k : Nat, k < 12 → Lib.index moT (at3 moT k) = 3 * (k : Int) := by decide +kernel
section
variable (w0 w1 w2 d1 d2 m0 m1 m2 y1 y2 y3 y4 h1 h2 i1 i2 s1 s2 : UInt8)
theorem cut_5_7 : cutL (mk29 w0 w1 w2 d1 d2 m0 m1 m2 y1 y2 y3 y4 h1 h2 i1 i2 s1 s2) 5 7 = [d1, d2] := rfl
theorem cut_8_11 : cutL (mk29 w0 w1 w2 d1 d2 m0 m1 m2 y1 y2 y3 y4 h1 h2 i1 i2 s1 s2) 8 11 = [m0, m1, m2] := rfl
theorem cut_12_14 : cutL (mk29 w0 w1 w2 d1 d2 m0 m1 m2 y1 y2 y3 y4 h1 h2 i1 i2 s1 s2) 12 14 = [y1, y2] := rfl
theorem cut_14_16 : cutL (mk29 w0 w1 w2 d1 d2 m0 m1 m2 y1 y2 y3 y4 h1 h2 i1 i2 s1 s2) 14 16 = [y3, y4] := rfl
theorem cut_12_16 : cutL (mk29 w0 w1 w2 d1 d2 m0 m1 m2 y1 y2 y3 y4 h1 h2 i1 i2 s1 s2) 12 16 = [y1, y2, y3, y4] := rfl
theorem cut_17_19 : cutL (mk29 w0 w1 w2 d1 d2 m0 m1 m2 y1 y2 y3 y4 h1 h2 i1 i2 s1 s2) 17 19 = [h1, h2] := rfl
theorem cut_20_22 : cutL (mk29 w0 w1 w2 d1 d2 m0 m1 m2 y1 y2 y3 y4 h1 h2 i1 i2 s1 s2) 20 22 = [i1, i2] := rfl
theorem cut_23_25 : cutL (mk29 w0 w1 w2 d1 d2 m0 m1 m2 y1 y2 y3 y4 h1 h2 i1 i2 s1 s2) 23 25 = [s1, s2] := rfl
end
theorem parS_show {x : Dt} (h : x.ok = true) : parS x.show = x := by
  obtain ⟨⟨a1, a2⟩, ⟨b1, b2⟩, ⟨c1, c2⟩, ⟨d1, d2⟩, ⟨e1, e2⟩, f1, f2⟩ := ok_iff.1 h
  have := mdays_le x.y x.mo
  have q : ∀ k, x.mo.toNat - 1 = k → k < 12 → monS (at3 moT (x.mo.toNat - 1)) 12 = x.mo := by
    intro k hk hlt
    rw [monS_at _ (by omega)]
    omega
  have hm := q _ rfl (by omega)
  have g1 : digits (cutL x.show 12 14) = some (x.y / 100) := by unfold Dt.show; rw [cut_12_14]; exact digits_two (by omega) (by omega)
  have g2 : digits (cutL x.show 14 16) = some (x.y % 100) := by
    unfold Dt.show; rw [cut_14_16]
    have : [dgt (x.y / 10 % 10), dgt (x.y % 10)] = two (x.y % 100) := by
      unfold two
      rw [show x.y % 100 / 10 % 10 = x.y / 10 % 10 by omega, show x.y % 100 % 10 = x.y % 10 by omega]
    rw [this]; exact digits_two (by omega) (by omega)
  have g3 : digits (cutL x.show 5 7) = some x.d := by unfold Dt.show; rw [cut_5_7]; exact digits_two (by omega) (by omega)
  have g4 : digits (cutL x.show 17 19) = some x.h := by unfold Dt.show; rw [cut_17_19]; exact digits_two (by omega) (by omega)
  have g5 : digits (cutL x.show 20 22) = some x.mi := by unfold Dt.show; rw [cut_20_22]; exact digits_two (by omega) (by omega)
  have g6 : digits (cutL x.show 23 25) = some x.s := by unfold Dt.show; rw [cut_23_25]; exact digits_two (by omega) (by omega)
  have g7 : cutL x.show 8 11 = at3 moT (x.mo.toNat - 1) := by unfold Dt.show; rw [cut_8_11]; rfl
  obtain ⟨y, mo, d, hh, mi, s⟩ := x
  generalize hS : Dt.show _ = S at *
  simp only [parS, g1, g2, g3, g4, g5, g6, g7, hm, Option.getD_some]
  congr 1
  simp only at a1 a2
  omega
theorem parI_show {x : Dt} (h : x.ok = true) : parI x.show = x := by
  obtain ⟨⟨a1, a2⟩, ⟨b1, b2⟩, ⟨c1, c2⟩, ⟨d1, d2⟩, ⟨e1, e2⟩, f1, f2⟩ := ok_iff.1 h
  have := mdays_le x.y x.mo
  have g1 : digits (cutL x.show 12 16) = some x.y := by unfold Dt.show; rw [cut_12_16]; exact digits_four (by omega) (by omega)
  have g3 : digits (cutL x.show 5 7) = some x.d := by unfold Dt.show; rw [cut_5_7]; exact digits_two (by omega) (by omega)
  have g4 : digits (cutL x.show 17 19) = some x.h := by unfold Dt.show; rw [cut_17_19]; exact digits_two (by omega) (by omega)
  have g5 : digits (cutL x.show 20 22) = some x.mi := by unfold Dt.show; rw [cut_20_22]; exact digits_two (by omega) (by omega)
  have g6 : digits (cutL x.show 23 25) = some x.s := by unfold Dt.show; rw [cut_23_25]; exact digits_two (by omega) (by omega)
  have g7 : cutL x.show 8 11 = at3 moT (x.mo.toNat - 1) := by unfold Dt.show; rw [cut_8_11]; rfl
  have hm : (Lib.index moT (at3 moT (x.mo.toNat - 1))).tdiv 3 + 1 = x.mo := by
    rw [index_at _ (by omega)]
    rw [Int.tdiv_eq_ediv_of_nonneg (by omega)]
    omega
  obtain ⟨y, mo, d, hh, mi, s⟩ := x
  generalize hS : Dt.show _ = S at *
  simp only [parI, g1, g3, g4, g5, g6, g7, hm, Option.getD_some]
def readOk (s : List UInt8) : Bool := decide (s.length = 29) && (parS s).shows s
def readD (s : List UInt8) : Dt := if readOk s then parS s else Dt.z
def readV (s : List UInt8) : V := .tup [(readD s).v, .val (.bool (readOk s))]
theorem shows_parI (s : List UInt8) : (parI s).shows s = (parS s).shows s := by
  rw [Bool.eq_iff_iff]
  unfold Dt.shows
  simp only [Bool.and_eq_true, beq_iff_eq]
  constructor
  · rintro ⟨h1, h2⟩
    have := parS_show h1
    rw [h2] at this
    rw [this]; exact ⟨h1, h2⟩
  · rintro ⟨h1, h2⟩
    have := parI_show h1
    rw [h2] at this
    rw [this]; exact ⟨h1, h2⟩
theorem parI_eq {s : List UInt8} (h : (parI s).shows s = true) : parI s = parS s := by
  unfold Dt.shows at h
  simp only [Bool.and_eq_true, beq_iff_eq] at h
  have := parS_show h.1
  rw [h.2] at this
  exact this.symm
/-- the moment of a field -/
def dateB (s : List UInt8) : Int := if readOk s then (readD s).moment else -1
end Go.Proofs.YtfdmlccbfbiloaaGreatDoor
namespace Go.Proofs.YtfdmlccbfbiloaaGreatDoor
open Go Go.Proofs.YtfdmlccbfbiloaaGreatDoor.Vs
variable [Gl]
set_option linter.unusedSectionVars false

/-! #### control (no program here) -/
structure Ctl where
  ma : Int
  sh : Int
  st : Int
  ns : Bool
  nc : Bool
  pr : Bool
  mu : Bool
def Ctl.z : Ctl := ⟨-1, -1, -1, false, false, false, false⟩
def Ctl.cs (c : Ctl) : List V := [.val (.int .i64 c.ma), .val (.int .i64 c.sh), .val (.int .i64 c.st), .val (.bool c.ns), .val (.bool c.nc), .val (.bool c.pr), .val (.bool c.mu)]
def Ctl.v (c : Ctl) : V := .agg c.cs
def secM : Int := 1000000000
def maW : List UInt8 := [109, 97, 120, 45, 97, 103, 101]
def shW : List UInt8 := [115, 45, 109, 97, 120, 97, 103, 101]
def stW : List UInt8 := [109, 97, 120, 45, 115, 116, 97, 108, 101]
def nsW : List UInt8 := [110, 111, 45, 115, 116, 111, 114, 101]
def ncW : List UInt8 := [110, 111, 45, 99, 97, 99, 104, 101]
def prW : List UInt8 := [112, 114, 105, 118, 97, 116, 101]
def muW : List UInt8 := [109, 117, 115, 116, 45, 114, 101, 118, 97, 108, 105, 100, 97, 116, 101]
/-- the number of a directive with a name (the sign behind it included) -/
def told (n x : List UInt8) : Option Int := if (decide (n.length < x.length) && x.take n.length == n) = true then (digits (x.drop n.length)).map (fun v => min secM v) else none
def tell (a : Int) (o : Option Int) : Int := if a < 0 then o.getD a else a
def ctlStep (c : Ctl) (x : List UInt8) : Ctl :=
  ⟨tell c.ma (told (maW ++ [61]) x), tell c.sh (told (shW ++ [61]) x), tell (tell c.st (told (stW ++ [61]) x)) (if x = stW then some secM else none), c.ns || x == nsW, c.nc || x == ncW, c.pr || x == prW, c.mu || x == muW⟩
def ctlL (c : Ctl) (l : List ByteArray) : Ctl := l.foldl (fun c x => ctlStep c (lower (sb x))) c
def ctl (s : List UInt8) : Ctl := ctlL Ctl.z (itemsB s)
theorem digits_le {l : List UInt8} {v : Int} (h : digits l = some v) : 0 ≤ v ∧ v < 1000000000000000 := by
  unfold digits at h
  split at h
  · rename_i hh
    simp only [Bool.and_eq_true, decide_eq_true_eq] at hh
    injection h with h
    have h1 := numL_lt l hh.2
    have h2 : (10 : Nat) ^ l.length ≤ 10 ^ 15 := Nat.pow_le_pow_right (by decide) hh.1.2
    omega
  · cases h
theorem told_le {n x : List UInt8} {v : Int} (h : told n x = some v) : 0 ≤ v ∧ v ≤ secM := by
  unfold told at h
  split at h
  · cases hd : digits (x.drop n.length) with
    | none => rw [hd] at h; cases h
    | some u =>
      rw [hd] at h
      simp only [Option.map_some, Option.some.injEq] at h
      have := digits_le hd
      unfold secM at *
      omega
  · cases h
def Ctl.ok (c : Ctl) : Prop := (-1 ≤ c.ma ∧ c.ma ≤ secM) ∧ (-1 ≤ c.sh ∧ c.sh ≤ secM) ∧ -1 ≤ c.st ∧ c.st ≤ secM
theorem tell_ok {a : Int} {o : Option Int} (h : -1 ≤ a ∧ a ≤ secM) (ho : ∀ v, o = some v → 0 ≤ v ∧ v ≤ secM) : -1 ≤ tell a o ∧ tell a o ≤ secM := by
  unfold tell
  split
  · cases o with
    | none => exact h
    | some v => have := ho v rfl; simp only [Option.getD_some]; omega
  · exact h
theorem ctlStep_ok {c : Ctl} (h : c.ok) (x : List UInt8) : (ctlStep c x).ok := by
  refine ⟨tell_ok h.1 fun v => told_le, tell_ok h.2.1 fun v => told_le, tell_ok (tell_ok h.2.2 fun v => told_le) fun v hv => ?_⟩
  split at hv
  · injection hv with hv; unfold secM at *; omega
  · cases hv
theorem ctlL_ok : ∀ {l : List ByteArray} {c : Ctl}, c.ok → (ctlL c l).ok
  | [], _, h => h
  | _ :: r, _, h => ctlL_ok (l := r) (ctlStep_ok h _)
theorem ctl_ok (s : List UInt8) : (ctl s).ok := ctlL_ok ⟨by decide, by decide, by decide⟩

/-! #### tags -/
structure Tg where
  w : Bool
  t : List UInt8
def tgChar (b : UInt8) : Bool := (decide (33 ≤ b.toNat) && decide (b.toNat ≤ 126)) && !(b == 34)
def Tg.ok (x : Tg) : Bool := decide (x.t.length ≤ 40) && x.t.all tgChar
def Tg.shw (x : Tg) : List UInt8 := (if x.w then [87, 47] else []) ++ [34] ++ x.t ++ [34]
def tgK (s : List UInt8) : Bool × List UInt8 := if (decide (2 < s.length) && s.take 2 == [87, 47]) = true then (true, s.drop 2) else (false, s)
/-- as the reference reads it -/
def tgS (s : List UInt8) : Tg := ⟨(tgK s).1, ((tgK s).2.drop 1).take ((tgK s).2.length - 1 - 1)⟩
/-- as the program reads it -/
def tgI (s : List UInt8) : Tg := if Lib.hasPrefix s [87, 47] then ⟨true, Lib.trimS (s.drop 2) [34]⟩ else ⟨false, Lib.trimS s [34]⟩
def Tg.shows (x : Tg) (s : List UInt8) : Bool := x.ok && x.shw == s
theorem tg_no34 {x : Tg} (h : x.ok = true) : ∀ b ∈ x.t, (b == 34) = false := by
  intro b hb
  simp only [Tg.ok, Bool.and_eq_true, List.all_eq_true] at h
  have := h.2 b hb
  simp only [tgChar, Bool.and_eq_true, Bool.not_eq_true'] at this
  exact this.2
theorem trim_q {t : List UInt8} (h : ∀ b ∈ t, (b == 34) = false) : Lib.trimS (34 :: (t ++ [34])) [34] = t := by
  have one : ∀ b : UInt8, ([34] : List UInt8).contains b = (b == 34) := fun b => Lib.contains_one 34 b
  have dw : ∀ l : List UInt8, (∀ b ∈ l, (b == 34) = false) → l.dropWhile ((([34] : List UInt8)).contains ·) = l := by
    intro l hl
    cases l with
    | nil => rfl
    | cons b r => rw [List.dropWhile_cons, one, hl b (by simp)]; rfl
  unfold Lib.trimS Lib.trimRightS Lib.trimLeftS
  have e1 : (34 :: (t ++ [34])).reverse.dropWhile ((([34] : List UInt8)).contains ·) = (if t = [] then [] else t.reverse ++ [34]) := by
    rw [List.reverse_cons, List.reverse_append]
    cases ht : t.reverse with
    | nil =>
      have : t = [] := by simpa using ht
      subst this
      rfl
    | cons b r =>
      have hne : ¬ t = [] := by intro e; subst e; cases ht
      rw [if_neg hne]
      have hb : (b == 34) = false := h b (by have : b ∈ t.reverse := by rw [ht]; simp
                                             simpa using this)
      show (34 :: (b :: r ++ [34])).dropWhile _ = _
      rw [List.dropWhile_cons, one]
      simp only [beq_self_eq_true, if_true]
      show (b :: (r ++ [34])).dropWhile _ = _
      rw [List.dropWhile_cons, one, hb]
      rfl
  rw [e1]
  split
  · rename_i ht
    subst ht; rfl
  · rw [List.reverse_append, List.reverse_reverse]
    show (34 :: t).dropWhile _ = _
    rw [List.dropWhile_cons, one]
    simp only [beq_self_eq_true, if_true]
    exact dw t h
theorem tgS_shw {x : Tg} (h : x.ok = true) : tgS x.shw = x := by
  obtain ⟨w, t⟩ := x
  cases w with
  | true =>
    have : tgK (Tg.shw ⟨true, t⟩) = (true, 34 :: (t ++ [34])) := by
      unfold tgK Tg.shw
      simp
    unfold tgS
    rw [this]
    simp
  | false =>
    have : tgK (Tg.shw ⟨false, t⟩) = (false, 34 :: (t ++ [34])) := by
      unfold tgK Tg.shw
      cases t <;> simp
    unfold tgS
    rw [this]
    simp
theorem tgI_shw {x : Tg} (h : x.ok = true) : tgI x.shw = x := by
  have hq := trim_q (tg_no34 h)
  obtain ⟨w, t⟩ := x
  cases w with
  | true =>
    have : Lib.hasPrefix (Tg.shw ⟨true, t⟩) [87, 47] = true := by simp [Tg.shw, Lib.hasPrefix]
    unfold tgI
    rw [if_pos this]
    have e : (Tg.shw ⟨true, t⟩).drop 2 = 34 :: (t ++ [34]) := by simp [Tg.shw]
    rw [e, hq]
  | false =>
    have : ¬ Lib.hasPrefix (Tg.shw ⟨false, t⟩) [87, 47] = true := by simp [Tg.shw, Lib.hasPrefix]
    unfold tgI
    rw [if_neg this]
    have e : Tg.shw ⟨false, t⟩ = 34 :: (t ++ [34]) := by simp [Tg.shw]
    rw [e, hq]
def tgOk (s : List UInt8) : Bool := (tgS s).shows s
theorem tgI_shows (s : List UInt8) : (tgI s).shows s = tgOk s := by
  unfold tgOk
  rw [Bool.eq_iff_iff]
  unfold Tg.shows
  simp only [Bool.and_eq_true, beq_iff_eq]
  constructor
  · rintro ⟨h1, h2⟩
    have := tgS_shw h1
    rw [h2] at this
    rw [this]; exact ⟨h1, h2⟩
  · rintro ⟨h1, h2⟩
    have := tgI_shw h1
    rw [h2] at this
    rw [this]; exact ⟨h1, h2⟩
theorem tgI_eq {s : List UInt8} (h : tgOk s = true) : tgI s = tgS s := by
  have h' := (tgI_shows s).trans h
  unfold Tg.shows at h'
  simp only [Bool.and_eq_true, beq_iff_eq] at h'
  have := tgS_shw h'.1
  rw [h'.2] at this
  exact this.symm
def tgV (s : List UInt8) : V := if tgOk s then .tup [.agg [.val (.bool (tgS s).w), .val (.string (bs (tgS s).t))], .val (.bool true)] else .tup [.agg [.val (.bool false), .val (.string ⟨⟨[]⟩⟩)], .val (.bool false)]
end Go.Proofs.YtfdmlccbfbiloaaGreatDoor
namespace Go.Proofs.YtfdmlccbfbiloaaGreatDoor
open Go Go.Proofs.YtfdmlccbfbiloaaGreatDoor.Vs
variable [Gl]
set_option linter.unusedSectionVars false

/-! #### digits, both -/
def digV (l : List UInt8) : V := .tup [.val (.int .i64 ((digits l).getD 0)), .val (.bool (digits l).isSome)]
theorem digV_no {l : List UInt8} (h : digits l = none) : digV l = .tup [.val (.int .i64 0), .val (.bool false)] := by unfold digV; rw [h]; rfl
theorem digV_yes {l : List UInt8} {v : Int} (h : digits l = some v) : digV l = .tup [.val (.int .i64 v), .val (.bool true)] := by unfold digV; rw [h]; rfl
theorem take_snoc {l : List UInt8} {i : Nat} {b : UInt8} (h : l[i]? = some b) : l.take (i + 1) = l.take i ++ [b] := by
  rw [List.take_add_one, h]; rfl
theorem isDg_iff (b : UInt8) : isDg b = true ↔ 48 ≤ b.toNat ∧ b.toNat ≤ 57 := by
  unfold isDg isDigit; simp only [Bool.and_eq_true, decide_eq_true_eq]; omega
theorem digitsS_c (s : ByteArray) (hs : (sb s).length ≤ 140737488355328) : VC Tryz.prog 76 [.val (.string s)] (digV (sb s)) := by
  refine VC.intro hΘ Tryz.func76 rfl rfl Tryz.ntmps76 rfl rfl rfl fun B hB => ?_
  (conv => whnf)
  refine brm_p (fun h1 => ?_) (fun h1 => ?_) <;> (conv => whnf)
  · rw [digV_no (by unfold digits; rw [if_neg]; simp only [Bool.and_eq_true, decide_eq_true_eq]; omega)]
    exact vfin_tup2 rfl rfl
  refine brm_p (fun h2 => ?_) (fun h2 => ?_) <;> (conv => whnf)
  · rw [digV_no (by unfold digits; rw [if_neg]; simp only [Bool.and_eq_true, decide_eq_true_eq]; omega)]
    exact vfin_tup2 rfl rfl
  refine vloop_intro hΘ hB (ι := Nat) (fun i => ⟨[(0, .val (.string s)), (4, .val (.int .i64 (numL ((sb s).take i) : Nat))), (5, .val (.int .i64 i))], []⟩) (fun i => i ≤ (sb s).length ∧ ((sb s).take i).all isDg = true) (fun i => (sb s).length - i) 0
    ⟨⟨.inr rfl, .inr rfl, .inr rfl, trivial⟩, trivial⟩ ⟨by omega, rfl⟩ ?_
  rintro i ⟨k1, k2⟩
  (conv => whnf)
  refine brm_p (fun h => ?_) (fun h => ?_) <;> (conv => whnf)
  · obtain ⟨b, hg, hm, hd⟩ := drop_at (xs := sb s) (i := i) (by omega)
    have hb := byteAt_get hg
    have no : ¬ isDg b = true → digits (sb s) = none := by
      intro hn
      unfold digits
      rw [if_neg]
      simp only [Bool.and_eq_true, List.all_eq_true]
      exact fun h => hn (h.2 b hm)
    refine vix_intro i rfl (by omega) ?_
    (conv => whnf)
    rw [hb]
    refine brm_p (fun h1 => ?_) (fun h1 => ?_) <;> (conv => whnf)
    · rw [digV_no (no (by rw [isDg_iff]; omega))]
      exact vfin_tup2 rfl rfl
    refine vix_intro i rfl (by omega) ?_
    (conv => whnf)
    rw [hb]
    refine brm_p (fun h2 => ?_) (fun h2 => ?_) <;> (conv => whnf)
    · rw [digV_no (no (by rw [isDg_iff]; omega))]
      exact vfin_tup2 rfl rfl
    have hdg : isDg b = true := by rw [isDg_iff]; omega
    refine vix_intro i rfl (by omega) ?_
    (conv => whnf)
    rw [hb]
    have hlt := numL_lt _ k2
    have hl2 : ((sb s).take i).length ≤ 14 := by rw [List.length_take]; omega
    have hp : (10 : Nat) ^ ((sb s).take i).length ≤ 10 ^ 14 := Nat.pow_le_pow_right (by decide) hl2
    refine ⟨i + 1, ⟨⟨.inr rfl, .inr (vint_eq ?_), .inr (vint_eq (wrap_succ (by omega))), trivial⟩, trivial⟩, ⟨by omega, ?_⟩, by omega⟩
    · rw [take_snoc hg, numL_snoc]
      have : IntKind.u8.wrap ((b.toNat : Int) - 48) = ((b.toNat - 48 : Nat) : Int) := by
        have := b.toNat_lt
        have e : ((b.toNat : Int) - 48) % 2 ^ 8 = ((b.toNat - 48 : Nat) : Int) := by omega
        simp only [IntKind.wrap, IntKind.bits, IntKind.signed, Bool.false_and, Bool.false_eq_true, if_false]
        exact e
      simp only [this]
      simp (disch := omega) only [wrap_i64]
      omega
    · rw [take_snoc hg, List.all_append, k2]
      simpa using hdg
  · have : (sb s).take i = sb s := List.take_of_length_le (by omega)
    rw [this] at k2 ⊢
    rw [digV_yes (v := (numL (sb s) : Nat)) (by unfold digits; rw [if_pos]; simp only [Bool.and_eq_true, decide_eq_true_eq]; exact ⟨⟨by omega, by omega⟩, k2⟩)]
    exact vfin_tup2 rfl rfl

theorem isDigitP_c (b : UInt8) : VC Tryz.prog 121 [.val (.int .u8 b.toNat)] (.val (.bool (isDg b))) := isDigit_c b.toNat
theorem parseUM (M : Nat) (hM : 1000000000000000 ≤ M) : ∀ (l : List UInt8) (acc k : Nat), k + l.length ≤ 15 → acc < 10 ^ k → l.all isDg = true → Lib.parseUintM M acc l = .ok (l.foldl (fun n b => n * 10 + (b.toNat - 48)) acc)
  | [], acc, k, _, _, _ => rfl
  | b :: r, acc, k, h1, h2, h3 => by
    rw [List.all_cons, Bool.and_eq_true] at h3
    have hb := (isDg_iff b).1 h3.1
    have hk : k + 1 ≤ 15 := by simp at h1; omega
    have hp : (10 : Nat) ^ (k + 1) ≤ 10 ^ 15 := Nat.pow_le_pow_right (by decide) hk
    have hs : (10 : Nat) ^ (k + 1) = 10 ^ k * 10 := Nat.pow_succ ..
    rw [Lib.parseUintM, if_pos (by omega), if_neg (by omega), if_neg (by omega)]
    rw [List.foldl_cons]
    exact parseUM M hM r _ (k + 1) (by simp at h1; omega) (by omega) h3.2
theorem parseInt_of {l : List UInt8} (h1 : 1 ≤ l.length) (h2 : l.length ≤ 15) (h3 : l.all isDg = true) : Lib.parseIntB 64 l = .ok (numL l : Nat) := by
  cases l with
  | nil => simp at h1
  | cons c r =>
    have hc := (isDg_iff c).1 (by rw [List.all_cons, Bool.and_eq_true] at h3; exact h3.1)
    have hu : Lib.parseUintB 64 (c :: r) = .ok (numL (c :: r)) := by
      rw [Lib.parseUintB, if_neg (by simp)]
      exact parseUM _ (by decide) _ 0 0 (by omega) (by decide) h3
    have hn := numL_lt _ h3
    have hp : (10 : Nat) ^ (c :: r).length ≤ 10 ^ 15 := Nat.pow_le_pow_right (by decide) h2
    rw [Lib.parseIntB_plain 64 c r (by omega) (by omega), hu]
    unfold Lib.signlessC
    simp only [show (2 : Nat) ^ (64 - 1) = 9223372036854775808 from rfl]
    rw [if_neg (by omega)]
theorem below_bytes {w w' : World} {k : Nat} (h : w' = w ∨ ∃ t, w' = Lib.bytesWorld w k t) : RowKit.Below w.heap.size w w' := by
  rcases h with rfl | ⟨t, rfl⟩
  · exact RowKit.Below.refl _ _
  · exact Lib.bytesWorld_below _ _ _
theorem parseInt_c (s : ByteArray) (h1 : 1 ≤ (sb s).length) (h2 : (sb s).length ≤ 15) (h3 : (sb s).all isDg = true) :
    VC Tryz.prog 122 [.val (.string s), .val (.int .i64 10), .val (.int .i64 64)] (.tup [.val (.int .i64 (numL (sb s) : Nat)), .val .nilIface]) :=
  VC.of_tupG (xs := [.string s, .int .i64 10, .int .i64 64]) (ys := [.int .i64 (numL (sb s) : Nat), .nilIface]) Tryz.func122 rfl rfl rfl fun _ w _ =>
    (Tryz.strconv_ParseInt_10_at64_ok s (by rw [Lib.size_eq]; show (sb s).length ≤ _; omega) (numL (sb s) : Nat) (parseInt_of h1 h2 h3) w).mono fun _ _ ⟨h1, h2⟩ => ⟨h1, below_bytes h2⟩
theorem digitsI_c (s : ByteArray) (hs : (sb s).length ≤ 140737488355328) : VC Tryz.prog 83 [.val (.string s)] (digV (sb s)) := by
  refine VC.intro hΘ Tryz.func83 rfl rfl Tryz.ntmps83 rfl rfl rfl fun B hB => ?_
  (conv => whnf)
  refine brm_p (fun h1 => ?_) (fun h1 => ?_) <;> (conv => whnf)
  · rw [digV_no (by unfold digits; rw [if_neg]; simp only [Bool.and_eq_true, decide_eq_true_eq]; omega)]
    exact vfin_tup2 rfl rfl
  refine brm_p (fun h2 => ?_) (fun h2 => ?_) <;> (conv => whnf)
  · rw [digV_no (by unfold digits; rw [if_neg]; simp only [Bool.and_eq_true, decide_eq_true_eq]; omega)]
    exact vfin_tup2 rfl rfl
  refine call_bb rfl (all_c 121 isDg isDigitP_c s hs) (f1 (av rfl) (f1 (av rfl) f0)) (fun h3 => ?_) (fun h3 => ?_) <;> (conv => whnf)
  rotate_left
  · rw [digV_no (by unfold digits; rw [if_neg]; simp only [Bool.and_eq_true]; rw [h3]; simp)]
    exact vfin_tup2 rfl rfl
  refine vcallS_intro0 rfl (parseInt_c s (by omega) (by omega) h3) (f1 (av rfl) (f1 (av rfl) (f1 (av rfl) f0))) ?_
  (conv => whnf)
  rw [digV_yes (v := (numL (sb s) : Nat)) (by unfold digits; rw [if_pos]; simp only [Bool.and_eq_true, decide_eq_true_eq]; exact ⟨⟨by omega, by omega⟩, h3⟩)]
  exact vfin_tup2 rfl rfl
end Go.Proofs.YtfdmlccbfbiloaaGreatDoor
namespace Go.Proofs.YtfdmlccbfbiloaaGreatDoor
open Go Go.Proofs.YtfdmlccbfbiloaaGreatDoor.Vs
variable [Gl]
set_option linter.unusedSectionVars false

/-! #### tags, both -/
def tagAgg (w : Bool) (t : ByteArray) : V := .agg [.val (.bool w), .val (.string t)]
theorem tagOkS_c (w : Bool) (t : ByteArray) : VC Tryz.prog 166 [tagAgg w t] (.val (.bool (Tg.ok ⟨w, sb t⟩))) := by
  refine VC.intro hΘ Tryz.func166 rfl rfl Tryz.ntmps166 rfl rfl rfl fun B hB => ?_
  (conv => whnf)
  refine brm_p (fun h3 => ?_) (fun h3 => ?_) <;> (conv => whnf)
  · exact vfin_bool (by
      have e : decide ((sb t).length ≤ 40) = false := by simp only [decide_eq_false_iff_not]; omega
      unfold Tg.ok; rw [e]; rfl)
  have e3 : decide ((sb t).length ≤ 40) = true := by simp only [decide_eq_true_eq]; omega
  have hT : Tg.ok ⟨w, sb t⟩ = (sb t).all tgChar := by unfold Tg.ok; rw [e3]; rfl
  rw [hT]
  refine vloop_intro hΘ hB (ι := Nat) (fun i => ⟨[(1, .ptr 1 0), (3, .val (.int .i64 i))], [(1, [.val (.bool w), .val (.string t)])]⟩) (fun i => i ≤ (sb t).length ∧ ((sb t).drop i).all tgChar = (sb t).all tgChar) (fun i => (sb t).length - i) 0
    ⟨⟨.inr rfl, .inr rfl, trivial⟩, ⟨⟨.inr rfl, .inr rfl, trivial⟩, trivial⟩⟩ ⟨by omega, rfl⟩ ?_
  rintro i ⟨k1, k2⟩
  (conv => whnf)
  refine brm_p (fun h => ?_) (fun h => ?_) <;> (conv => whnf)
  · obtain ⟨b, hg, _, hd⟩ := drop_at (xs := sb t) (i := i) (by omega)
    rw [hd, List.all_cons] at k2
    have hb := byteAt_get hg
    have no : tgChar b = false → Bool.false = (sb t).all tgChar := by intro e; rw [e, Bool.false_and] at k2; exact k2
    refine vix_intro i rfl (by omega) ?_
    (conv => whnf)
    rw [hb]
    refine brm_p (fun h1 => ?_) (fun h1 => ?_) <;> (conv => whnf)
    · exact vfin_bool (no (by simp [tgChar]; omega))
    refine vix_intro i rfl (by omega) ?_
    (conv => whnf)
    rw [hb]
    refine brm_p (fun h2 => ?_) (fun h2 => ?_) <;> (conv => whnf)
    · exact vfin_bool (no (by simp [tgChar]; omega))
    refine vix_intro i rfl (by omega) ?_
    (conv => whnf)
    rw [hb]
    refine brm_eq (fun h2 => ?_) (fun h2 => ?_) <;> (conv => whnf)
    · exact vfin_bool (no (by
        have : b = 34 := by apply UInt8.toNat_inj.1; show b.toNat = 34; omega
        subst this; rfl))
    · have : tgChar b = true := by
        have hne : ¬ b = 34 := by rintro rfl; exact h2 rfl
        simp [tgChar, hne]; omega
      rw [this, Bool.true_and] at k2
      exact ⟨i + 1, ⟨⟨.inr rfl, .inr (vint_eq (wrap_succ (by omega))), trivial⟩, ⟨⟨.inr rfl, .inr rfl, trivial⟩, trivial⟩⟩, ⟨by omega, k2⟩, by omega⟩
  · refine vfin_bool ?_
    have : (sb t).drop i = [] := List.drop_eq_nil_of_le (by omega)
    rw [this] at k2
    rw [← k2]; rfl
theorem tagFn_c (b : UInt8) : VC Tryz.prog 180 [.val (.int .u8 b.toNat)] (.val (.bool (tgChar b))) := by
  refine VC.intro hΘ Tryz.func180 rfl rfl Tryz.ntmps180 rfl rfl rfl fun B hB => ?_
  (conv => whnf)
  have h34 : ((b.toNat : Int) = 34) ↔ b = 34 := by
    constructor
    · intro h; apply UInt8.toNat_inj.1; show b.toNat = 34; omega
    · rintro rfl; rfl
  refine brm_p (fun h1 => ?_) (fun h1 => ?_) <;> (conv => whnf)
  · refine brm_p (fun h2 => ?_) (fun h2 => ?_) <;> (conv => whnf)
    · refine vfin_bool ?_
      rw [Bool.eq_iff_iff]
      simp [tgChar, bne, h34]; omega
    · exact vfin_bool (by simp [tgChar]; omega)
  · exact vfin_bool (by simp [tgChar]; omega)
theorem tagOkI_c (w : Bool) (t : ByteArray) (ht : (sb t).length ≤ 140737488355328) : VC Tryz.prog 144 [tagAgg w t] (.val (.bool (Tg.ok ⟨w, sb t⟩))) := by
  refine VC.intro hΘ Tryz.func144 rfl rfl Tryz.ntmps144 rfl rfl rfl fun B hB => ?_
  (conv => whnf)
  refine brm_p (fun h3 => ?_) (fun h3 => ?_) <;> (conv => whnf)
  · have e3 : decide ((sb t).length ≤ 40) = true := by simp only [decide_eq_true_eq]; omega
    refine vcallS_intro0 rfl (all_c 180 tgChar tagFn_c t ht) (f1 (av rfl) (f1 (av rfl) f0)) ?_
    (conv => whnf)
    exact vfin_bool (by unfold Tg.ok; rw [e3]; rfl)
  · exact vfin_bool (by
      have e : decide ((sb t).length ≤ 40) = false := by simp only [decide_eq_false_iff_not]; omega
      unfold Tg.ok; rw [e]; rfl)
/-! the text of a tag: bytes -/
theorem cat_ok {x y : ByteArray} (h : (sb x).length ≤ 1000000) (h' : (sb y).length ≤ 1000000) : (sb x).length + (sb y).length ≤ cap63 := by unfold cap63; omega
def tgTxt (w : Bool) (t : List UInt8) : List UInt8 := if Tg.ok ⟨w, t⟩ then Tg.shw ⟨w, t⟩ else []
theorem showTagS_c (w : Bool) (t : ByteArray) : VC Tryz.prog 137 [tagAgg w t] (.val (.string (bs (tgTxt w (sb t))))) := by
  have cs : Tg.ok ⟨w, sb t⟩ = true → VC Tryz.prog 167 [tagAgg w t] (.val (.string (bs (Tg.shw ⟨w, sb t⟩)))) := by
    intro hok
    have hl : (sb t).length ≤ 40 := by simp only [Tg.ok, Bool.and_eq_true, decide_eq_true_eq] at hok; exact hok.1
    refine VC.intro hΘ Tryz.func167 rfl rfl Tryz.ntmps167 rfl rfl rfl fun B hB => ?_
    (conv => whnf)
    refine vreq_intro (cat_ok (by decide) (by omega)) ?_
    (conv => whnf)
    refine vreq_intro (cat_ok (by rw [sb_bs, List.length_append]; show 1 + (sb t).length ≤ _; omega) (by decide)) ?_
    cases w with
    | true =>
      (conv => whnf)
      refine vreq_intro (cat_ok (by decide) (by rw [sb_bs, List.length_append, sb_bs, List.length_append]; show 1 + (sb t).length + 1 ≤ _; omega)) ?_
      (conv => whnf)
      exact vfin_str (by simp only [sb_bs, Tg.shw]; congr 1)
    | false =>
      (conv => whnf)
      exact vfin_str (by simp only [sb_bs, Tg.shw]; congr 1)
  refine VC.intro hΘ Tryz.func137 rfl rfl Tryz.ntmps137 rfl rfl rfl fun B hB => ?_
  (conv => whnf)
  refine call_bb rfl (tagOkS_c w t) (f1 (fa (l1 (fv rfl) (l1 (fv rfl) l0))) f0) (fun h => ?_) (fun h => ?_) <;> (conv => whnf)
  · refine vcallS_intro0 rfl (cs h) (f1 (fa (l1 (fv rfl) (l1 (fv rfl) l0))) f0) ?_
    (conv => whnf)
    exact vfin_str (by unfold tgTxt; rw [if_pos h])
  · exact vfin_str (by unfold tgTxt; rw [h]; rfl)
theorem showTagI_c (w : Bool) (t : ByteArray) (ht : (sb t).length ≤ 140737488355328) : VC Tryz.prog 145 [tagAgg w t] (.val (.string (bs (tgTxt w (sb t))))) := by
  refine VC.intro hΘ Tryz.func145 rfl rfl Tryz.ntmps145 rfl rfl rfl fun B hB => ?_
  (conv => whnf)
  refine call_bb rfl (tagOkI_c w t ht) (f1 (fa (l1 (fv rfl) (l1 (fv rfl) l0))) f0) (fun h => ?_) (fun h => ?_) <;> (conv => whnf)
  · have hl : (sb t).length ≤ 40 := by simp only [Tg.ok, Bool.and_eq_true, decide_eq_true_eq] at h; exact h.1
    cases w with
    | true =>
      (conv => whnf)
      refine vreq_intro (cat_ok (by decide) (by omega)) ?_
      (conv => whnf)
      refine vreq_intro (cat_ok (by rw [sb_bs, List.length_append]; show 3 + (sb t).length ≤ _; omega) (by decide)) ?_
      (conv => whnf)
      exact vfin_str (by simp only [tgTxt, h, if_true, sb_bs, Tg.shw]; congr 1)
    | false =>
      (conv => whnf)
      refine vreq_intro (cat_ok (by decide) (by omega)) ?_
      (conv => whnf)
      refine vreq_intro (cat_ok (by rw [sb_bs, List.length_append]; show 1 + (sb t).length ≤ _; omega) (by decide)) ?_
      (conv => whnf)
      exact vfin_str (by simp only [tgTxt, h, if_true, sb_bs, Tg.shw]; congr 1)
  · exact vfin_str (by unfold tgTxt; rw [h]; rfl)
end Go.Proofs.YtfdmlccbfbiloaaGreatDoor
namespace Go.Proofs.YtfdmlccbfbiloaaGreatDoor
open Go Go.Proofs.YtfdmlccbfbiloaaGreatDoor.Vs
variable [Gl]
set_option linter.unusedSectionVars false

/-! #### a tag is read, both -/
theorem cutPrefix_c (s p : ByteArray) : VC Tryz.prog 133 [.val (.string s), .val (.string p)] (.tup [.val (.string (bs (Lib.trimPrefix (sb s) (sb p)))), .val (.bool (Lib.hasPrefix (sb s) (sb p)))]) :=
  VC.of_tupG (xs := [.string s, .string p]) (ys := [.string (bs (Lib.trimPrefix (sb s) (sb p))), .bool (Lib.hasPrefix (sb s) (sb p))]) Tryz.func133 rfl rfl rfl fun _ w _ =>
    (Tryz.strings_CutPrefix s p w).mono fun _ _ ⟨h1, h2⟩ => ⟨h1, h2 ▸ RowKit.Below.refl _ _⟩
theorem trimQ_c (s : ByteArray) (hs : (sb s).length ≤ 140737488355328) : VC Tryz.prog 143 [.val (.string s), .val (.string ⟨#[34]⟩)] (.val (.string (bs (Lib.trimS (sb s) [34])))) := by
  refine VC.of_vals (xs := [.string s, .string ⟨#[34]⟩]) Tryz.func143 rfl rfl rfl fun w => ?_
  exact Any.strings_Trim_laid Tryz.lays160 (by kernel_rfl) s ⟨#[34]⟩ w (by rw [size_sb]; omega) (by decide) (ascii_of_all (by decide))
theorem trimS_len (l cs : List UInt8) : (Lib.trimS l cs).length ≤ l.length := by
  have d : ∀ (p : UInt8 → Bool) (l : List UInt8), (l.dropWhile p).length ≤ l.length := fun p l => (List.dropWhile_suffix p).length_le
  unfold Lib.trimS Lib.trimLeftS Lib.trimRightS
  refine Nat.le_trans (d _ _) ?_
  rw [List.length_reverse]
  exact Nat.le_trans (d _ _) (by simp)
theorem trimP_len (l p : List UInt8) : (Lib.trimPrefix l p).length ≤ l.length := by
  unfold Lib.trimPrefix; split
  · simp
  · exact Nat.le_refl _
theorem tgOk_of {s : List UInt8} (h : tgOk s = true) : (tgS s).ok = true ∧ (tgS s).shw = s := by
  unfold tgOk Tg.shows at h
  simpa using h
theorem tgOk_short {s : List UInt8} (h : (tgK s).2.length < 2) : tgOk s = false := by
  cases ho : tgOk s with
  | false => rfl
  | true =>
    exfalso
    obtain ⟨h1, h2⟩ := tgOk_of ho
    have e := tgS_shw h1
    have hk : (tgK (tgS s).shw).2 = 34 :: ((tgS s).t ++ [34]) := by
      generalize tgS s = x
      obtain ⟨w, t⟩ := x
      cases w <;> simp [tgK, Tg.shw] <;> cases t <;> simp
    rw [h2] at hk
    rw [hk] at h
    simp at h
    omega
theorem tgV_no {s : List UInt8} (h : tgOk s = false) : tgV s = .tup [.agg [.val (.bool false), .val (.string ⟨⟨[]⟩⟩)], .val (.bool false)] := by unfold tgV; rw [h]; rfl
theorem tgV_yes {s : List UInt8} (h : tgOk s = true) : tgV s = .tup [.agg [.val (.bool (tgS s).w), .val (.string (bs (tgS s).t))], .val (.bool true)] := by unfold tgV; rw [h]; rfl
/-- the text is shown as it is, or not -/
theorem txt_no {w : Bool} {t s : List UInt8} (h : ¬ tgTxt w t = s) : Tg.shows ⟨w, t⟩ s = false := by
  unfold Tg.shows
  unfold tgTxt at h
  cases ho : Tg.ok ⟨w, t⟩ with
  | false => rfl
  | true => rw [ho] at h; simpa using h
theorem txt_yes {w : Bool} {t s : List UInt8} (hs : s ≠ []) (h : tgTxt w t = s) : Tg.shows ⟨w, t⟩ s = true := by
  unfold Tg.shows
  unfold tgTxt at h
  cases ho : Tg.ok ⟨w, t⟩ with
  | false => rw [ho] at h; exact absurd h.symm hs
  | true => rw [ho] at h; simpa using h
theorem readTagI_c (s : ByteArray) (hs : (sb s).length ≤ 140737488355328) : VC Tryz.prog 113 [.val (.string s)] (tgV (sb s)) := by
  refine VC.intro hΘ Tryz.func113 rfl rfl Tryz.ntmps113 rfl rfl (by unfold tgV; split <;> rfl) fun B hB => ?_
  (conv => whnf)
  refine vcallS_intro0 rfl (cutPrefix_c s ⟨#[87, 47]⟩) (f1 (av rfl) (f1 (av rfl) f0)) ?_
  (conv => whnf)
  obtain ⟨k, hk⟩ : ∃ k : ByteArray, k = bs (Lib.trimPrefix (sb s) (sb ⟨#[87, 47]⟩)) := ⟨_, rfl⟩
  rw [← hk]
  obtain ⟨w, hw⟩ : ∃ w : Bool, w = Lib.hasPrefix (sb s) (sb ⟨#[87, 47]⟩) := ⟨_, rfl⟩
  rw [← hw]
  have hkl : (sb k).length ≤ 140737488355328 := by rw [hk, sb_bs]; exact Nat.le_trans (trimP_len _ _) hs
  refine call_l rfl (trimQ_c k hkl) (f1 (av rfl) (f1 (av rfl) f0)) fun t ht => ?_
  (conv => whnf)
  have htl : (sb (bs t)).length ≤ 140737488355328 := by rw [sb_bs, ht]; exact Nat.le_trans (trimS_len _ _) hkl
  have hT : tgI (sb s) = ⟨w, t⟩ := by
    unfold tgI
    rw [ht, hk, sb_bs]
    have hw' : w = Lib.hasPrefix (sb s) [87, 47] := hw
    unfold Lib.trimPrefix
    show _ = (⟨w, Lib.trimS (if Lib.hasPrefix (sb s) [87, 47] = true then (sb s).drop 2 else sb s) [34]⟩ : Tg)
    rw [hw']
    cases Lib.hasPrefix (sb s) [87, 47] <;> rfl
  have hO : Tg.shows ⟨w, t⟩ (sb s) = tgOk (sb s) := by rw [← hT]; exact tgI_shows _
  refine call_bb rfl (tagOkI_c w (bs t) htl) (f1 (fa (l1 (fv rfl) (l1 (fv rfl) l0))) f0) (fun h => ?_) (fun h => ?_) <;> (conv => whnf)
  rotate_left
  · rw [tgV_no (by rw [← hO]; unfold Tg.shows; rw [show Tg.ok ⟨w, t⟩ = false from h]; rfl)]
    exact vfin_tup2 rfl rfl
  refine call_l rfl (showTagI_c w (bs t) htl) (f1 (fa (l1 (fv rfl) (l1 (fv rfl) l0))) f0) fun y hy => ?_
  (conv => whnf)
  have hy : y = Tg.shw ⟨w, t⟩ := by rw [hy, sb_bs]; unfold tgTxt; rw [show Tg.ok ⟨w, t⟩ = true from h]; rfl
  refine brm_ne' (fun h2 => ?_) (fun h2 => ?_) <;> (conv => whnf)
  · rw [tgV_no (by rw [← hO]; unfold Tg.shows; rw [← hy]; rw [sb_bs] at h2; simp [h2])]
    exact vfin_tup2 rfl rfl
  · rw [sb_bs] at h2
    have hok : tgOk (sb s) = true := by rw [← hO]; unfold Tg.shows; rw [show Tg.ok ⟨w, t⟩ = true from h, ← hy]; simp [h2]
    rw [tgV_yes hok, ← tgI_eq hok, hT]
    exact vfin_tup2 rfl rfl
theorem readTagS_c (s : ByteArray) (hs : (sb s).length ≤ 140737488355328) : VC Tryz.prog 105 [.val (.string s)] (tgV (sb s)) := by
  refine VC.intro hΘ Tryz.func105 rfl rfl Tryz.ntmps105 rfl rfl (by unfold tgV; split <;> rfl) fun B hB => ?_
  (conv => whnf)
  have short : ∀ {w : Bool} {k : List UInt8}, tgK (sb s) = (w, k) → (k.length : Int) < 2 → tgOk (sb s) = false := by
    intro w k hk h
    refine tgOk_short ?_
    rw [hk]; show k.length < 2; omega
  have fin : ∀ {w : Bool} {k : List UInt8}, tgK (sb s) = (w, k) → tgS (sb s) = ⟨w, (k.drop 1).take (k.length - 1 - 1)⟩ := by
    intro w k hk
    unfold tgS; rw [hk]
  have no : ∀ {w : Bool} {k : List UInt8}, tgK (sb s) = (w, k) → 2 ≤ k.length → sb s ≠ [] := by
    intro w k hk h e
    rw [e] at hk
    have : k = [] := by
      unfold tgK at hk
      simp at hk
      exact hk.2
    subst this; simp at h
  refine brm_p (fun h1 => ?_) (fun h1 => ?_) <;> (conv => whnf)
  · refine vrange_intro 0 2 rfl rfl (by omega) (by omega) ?_
    (conv => whnf)
    refine brm_eq (fun h2 => ?_) (fun h2 => ?_) <;> (conv => whnf)
    · refine vrange_intro 2 (sb s).length rfl rfl (by omega) (by omega) ?_
      (conv => whnf)
      obtain ⟨k, hk⟩ : ∃ k : ByteArray, k = bs (((sb s).drop 2).take ((sb s).length - 2)) := ⟨_, rfl⟩
      rw [← hk]
      have hK : tgK (sb s) = (true, sb k) := by
        unfold tgK
        have e : (decide (2 < (sb s).length) && (sb s).take 2 == [87, 47]) = true := by
          rw [decide_eq_true (by omega : 2 < (sb s).length)]
          have : (sb s).take 2 = [87, 47] := h2
          rw [this]; rfl
        rw [if_pos e, hk, sb_bs, List.take_of_length_le (by simp)]
      have hkl : (sb k).length ≤ (sb s).length := by rw [hk, sb_bs]; simp
      clear hk
      refine brm_p (fun h3 => ?_) (fun h3 => ?_) <;> (conv => whnf)
      · rw [tgV_no (short hK h3)]
        exact vfin_tup2 rfl rfl
      refine vrange_intro 1 ((sb k).length - 1) rfl (by rw [wrap_i64 (by omega) (by omega)]; omega) (by omega) (by omega) ?_
      (conv => whnf)
      have hS := fin hK
      generalize ((sb k).drop 1).take ((sb k).length - 1 - 1) = t at hS ⊢
      refine call_l rfl (showTagS_c true (bs t)) (f1 (fa (l1 (fv rfl) (l1 (fv rfl) l0))) f0) fun y hy => ?_
      (conv => whnf)
      refine brm_ne' (fun h4 => ?_) (fun h4 => ?_) <;> (conv => whnf)
      · rw [tgV_no (by unfold tgOk; rw [hS]; exact txt_no (by rw [sb_bs] at hy h4; rw [← hy]; exact h4))]
        exact vfin_tup2 rfl rfl
      · rw [tgV_yes (by unfold tgOk; rw [hS]; exact txt_yes (no hK (by omega)) (by rw [sb_bs] at hy h4; rw [← hy]; exact h4)), hS]
        exact vfin_tup2 rfl rfl
    · have hK : tgK (sb s) = (false, sb s) := by
        unfold tgK
        rw [if_neg]
        intro e
        simp only [Bool.and_eq_true, beq_iff_eq] at e
        exact h2 e.2
      refine brm_p (fun h3 => ?_) (fun h3 => ?_) <;> (conv => whnf)
      · rw [tgV_no (short hK h3)]
        exact vfin_tup2 rfl rfl
      refine vrange_intro 1 ((sb s).length - 1) rfl (by rw [wrap_i64 (by omega) (by omega)]; omega) (by omega) (by omega) ?_
      (conv => whnf)
      have hS := fin hK
      generalize ((sb s).drop 1).take ((sb s).length - 1 - 1) = t at hS ⊢
      refine call_l rfl (showTagS_c false (bs t)) (f1 (fa (l1 (fv rfl) (l1 (fv rfl) l0))) f0) fun y hy => ?_
      (conv => whnf)
      refine brm_ne' (fun h4 => ?_) (fun h4 => ?_) <;> (conv => whnf)
      · rw [tgV_no (by unfold tgOk; rw [hS]; exact txt_no (by rw [sb_bs] at hy h4; rw [← hy]; exact h4))]
        exact vfin_tup2 rfl rfl
      · rw [tgV_yes (by unfold tgOk; rw [hS]; exact txt_yes (no hK (by omega)) (by rw [sb_bs] at hy h4; rw [← hy]; exact h4)), hS]
        exact vfin_tup2 rfl rfl
  · have hK : tgK (sb s) = (false, sb s) := by
      unfold tgK
      rw [if_neg]
      intro e
      simp only [Bool.and_eq_true, decide_eq_true_eq] at e
      omega
    refine brm_p (fun h3 => ?_) (fun h3 => ?_) <;> (conv => whnf)
    · rw [tgV_no (short hK h3)]
      exact vfin_tup2 rfl rfl
    refine vrange_intro 1 ((sb s).length - 1) rfl (by rw [wrap_i64 (by omega) (by omega)]; omega) (by omega) (by omega) ?_
    (conv => whnf)
    have hS := fin hK
    generalize ((sb s).drop 1).take ((sb s).length - 1 - 1) = t at hS ⊢
    refine call_l rfl (showTagS_c false (bs t)) (f1 (fa (l1 (fv rfl) (l1 (fv rfl) l0))) f0) fun y hy => ?_
    (conv => whnf)
    refine brm_ne' (fun h4 => ?_) (fun h4 => ?_) <;> (conv => whnf)
    · rw [tgV_no (by unfold tgOk; rw [hS]; exact txt_no (by rw [sb_bs] at hy h4; rw [← hy]; exact h4))]
      exact vfin_tup2 rfl rfl
    · rw [tgV_yes (by unfold tgOk; rw [hS]; exact txt_yes (no hK (by omega)) (by rw [sb_bs] at hy h4; rw [← hy]; exact h4)), hS]
      exact vfin_tup2 rfl rfl
end Go.Proofs.YtfdmlccbfbiloaaGreatDoor
namespace Go.Proofs.YtfdmlccbfbiloaaGreatDoor
open Go Go.Proofs.YtfdmlccbfbiloaaGreatDoor.Vs
variable [Gl]
set_option linter.unusedSectionVars false

/-! #### a purge is read (no program here) -/
def w1 : List UInt8 := [107, 101, 121, 32]
def w2 : List UInt8 := [116, 97, 103, 32]
def w3 : List UInt8 := [98, 101, 103, 105, 110, 32]
def w4 : List UInt8 := [97, 108, 108]
def pwd (k : Nat) : List UInt8 := match k with | 1 => w1 | 2 => w2 | 3 => w3 | _ => w4
/-- a purge of kind k, if the text begins so -/
def pOf (k : Nat) (s : List UInt8) : Prg := ⟨k, bs (s.drop (pwd k).length)⟩
def cand (k : Nat) (s : List UInt8) : Bool := startsB s (pwd k) && (pOf k s).good
/-- the kinds from k on, n of them -/
def rdFrom : Nat → Nat → List UInt8 → Option Prg
  | 0, _, _ => none
  | n + 1, k, s => if cand k s then some (pOf k s) else rdFrom n (k + 1) s
def rdP (s : List UInt8) : Option Prg := rdFrom 4 1 s
def zPrg : Prg := ⟨0, ⟨⟨[]⟩⟩⟩
def rdV (s : List UInt8) : V := .tup [((rdP s).getD zPrg).vs, .val (.bool (rdP s).isSome)]
theorem cand_one {j k : Nat} {s : List UInt8} (hj : 1 ≤ j) (hk : 1 ≤ k) (hj4 : j ≤ 4) (hk4 : k ≤ 4) (h1 : cand j s = true) (h2 : cand k s = true) : j = k := by
  unfold cand at h1 h2
  simp only [Bool.and_eq_true, startsB, decide_eq_true_eq, beq_iff_eq] at h1 h2
  have e1 := h1.1.2
  have e2 := h2.1.2
  have hd : ∀ m, 1 ≤ m → m ≤ 4 → s.take (pwd m).length = pwd m → s.head? = (pwd m).head? := by
    intro m hm hm4 e
    have : 0 < (pwd m).length := by
      match m, hm, hm4 with
      | 1, _, _ => decide
      | 2, _, _ => decide
      | 3, _, _ => decide
      | 4, _, _ => decide
    rw [← e]
    cases s with
    | nil => simp at e; rw [e] at this; simp at this
    | cons b r =>
      obtain ⟨n, hn⟩ : ∃ n, (pwd m).length = n + 1 := ⟨(pwd m).length - 1, by omega⟩
      rw [hn, List.take_succ_cons]; rfl
  have a1 := hd j hj hj4 e1
  have a2 := hd k hk hk4 e2
  rw [a1] at a2
  match j, hj, hj4, k, hk, hk4, a2 with
  | 1, _, _, 1, _, _, _ => rfl
  | 2, _, _, 2, _, _, _ => rfl
  | 3, _, _, 3, _, _, _ => rfl
  | 4, _, _, 4, _, _, _ => rfl
  | 1, _, _, 2, _, _, h => exact absurd h (by decide)
  | 1, _, _, 3, _, _, h => exact absurd h (by decide)
  | 1, _, _, 4, _, _, h => exact absurd h (by decide)
  | 2, _, _, 1, _, _, h => exact absurd h (by decide)
  | 2, _, _, 3, _, _, h => exact absurd h (by decide)
  | 2, _, _, 4, _, _, h => exact absurd h (by decide)
  | 3, _, _, 1, _, _, h => exact absurd h (by decide)
  | 3, _, _, 2, _, _, h => exact absurd h (by decide)
  | 3, _, _, 4, _, _, h => exact absurd h (by decide)
  | 4, _, _, 1, _, _, h => exact absurd h (by decide)
  | 4, _, _, 2, _, _, h => exact absurd h (by decide)
  | 4, _, _, 3, _, _, h => exact absurd h (by decide)
theorem rdFrom_some : ∀ {n k : Nat} {s : List UInt8} {j : Nat}, 1 ≤ k → k + n ≤ 5 → k ≤ j → j < k + n → cand j s = true → rdFrom n k s = some (pOf j s)
  | 0, k, s, j, _, _, h1, h2, _ => by omega
  | n + 1, k, s, j, h0, h5, h1, h2, hc => by
    rw [rdFrom]
    split
    · rename_i h
      rw [cand_one (by omega) (by omega) (by omega) (by omega) h hc]
    · rename_i h
      have : k ≠ j := by rintro rfl; exact h hc
      exact rdFrom_some (by omega) (by omega) (by omega) (by omega) hc
theorem rdFrom_none : ∀ {n k : Nat} {s : List UInt8}, (∀ j, k ≤ j → j < k + n → cand j s = false) → rdFrom n k s = none
  | 0, k, s, _ => rfl
  | n + 1, k, s, h => by
    rw [rdFrom, h k (by omega) (by omega)]
    exact rdFrom_none fun j h1 h2 => h j (by omega) (by omega)
theorem rdP_some {s : List UInt8} {j : Nat} (h1 : 1 ≤ j) (h2 : j ≤ 4) (h : cand j s = true) : rdP s = some (pOf j s) := rdFrom_some (by omega) (by omega) h1 (by omega) h
theorem rdP_none {s : List UInt8} (h1 : cand 1 s = false) (h2 : cand 2 s = false) (h3 : cand 3 s = false) (h4 : cand 4 s = false) : rdP s = none :=
  rdFrom_none fun j a b => by
    have : j = 1 ∨ j = 2 ∨ j = 3 ∨ j = 4 := by omega
    rcases this with rfl | rfl | rfl | rfl <;> assumption
theorem startsB_of {s w : List UInt8} (h : startsB s w = true) : s = w ++ s.drop w.length := by
  simp only [startsB, Bool.and_eq_true, decide_eq_true_eq, beq_iff_eq] at h
  have := List.take_append_drop w.length s
  rw [h.2] at this
  exact this.symm
/-- the text of a purge -/
def Prg.shw (p : Prg) : List UInt8 := if p.k = 4 then w4 else pwd p.k.toNat ++ sb p.t
/-- as the reference reads it: the last kind whose word the text begins with -/
def rsK (s : List UInt8) : Nat → Nat → Prg
  | _, 0 => ⟨4, ⟨⟨[]⟩⟩⟩
  | k, n + 1 => if (decide ((pwd (k + n)).length < s.length) && s.take (pwd (k + n)).length == pwd (k + n)) = true then pOf (k + n) s else rsK s k n
def rsP (s : List UInt8) : Prg := rsK s 1 3
def Prg.shows (p : Prg) (s : List UInt8) : Bool := (if p.good then p.shw else []) == s
theorem rdP_rs {s : List UInt8} : rdP s = if (rsP s).shows s then some (rsP s) else none := by
  have word : ∀ k, 1 ≤ k → k ≤ 3 → ((decide ((pwd k).length < s.length) && s.take (pwd k).length == pwd k) = true → ((pOf k s).shows s = cand k s)) ∧ ((decide ((pwd k).length < s.length) && s.take (pwd k).length == pwd k) = false → cand k s = false) := by
    intro k hk hk3
    have hk4 : ((k : Int) = 4) = False := by simp; omega
    constructor
    · intro h
      simp only [Bool.and_eq_true, decide_eq_true_eq, beq_iff_eq] at h
      have hs : startsB s (pwd k) = true := by
        simp only [startsB, Bool.and_eq_true, decide_eq_true_eq, beq_iff_eq]; exact ⟨by omega, h.2⟩
      have hsh : (pOf k s).shw = s := by
        unfold Prg.shw pOf
        simp only [hk4, if_false, Int.toNat_natCast, sb_bs]
        exact (startsB_of hs).symm
      unfold Prg.shows cand
      rw [hs, hsh, Bool.true_and]
      cases hg : (pOf k s).good with
      | true => simp
      | false =>
        simp only [Bool.false_eq_true, if_false]
        cases s with
        | nil => simp at h
        | cons _ _ => rfl
    · intro h
      unfold cand
      cases hs : startsB s (pwd k) with
      | false => rfl
      | true =>
        rw [Bool.true_and]
        simp only [startsB, Bool.and_eq_true, decide_eq_true_eq, beq_iff_eq] at hs
        have : ¬ (pwd k).length < s.length := by
          intro hlt
          rw [decide_eq_true hlt, hs.2] at h
          simp at h
        have hd : s.drop (pwd k).length = [] := List.drop_eq_nil_of_le (by omega)
        unfold Prg.good pOf
        simp only [hk4, if_false, hd, sb_bs, List.length_nil]
        simp
  have four : cand 4 s = (w4 == s) := by
    unfold cand Prg.good pOf
    simp only [show (((4 : Nat) : Int) = 4) = True by simp, if_true, sb_bs]
    show (startsB s w4 && s.drop 3 == []) = _
    rw [Bool.eq_iff_iff]
    simp only [Bool.and_eq_true, beq_iff_eq]
    constructor
    · rintro ⟨h1, h2⟩
      have := startsB_of h1
      rw [show w4.length = 3 from rfl, h2, List.append_nil] at this
      exact this.symm
    · rintro rfl
      exact ⟨by decide, by decide⟩
  have shows4 : Prg.shows ⟨4, ⟨⟨[]⟩⟩⟩ s = (w4 == s) := by
    unfold Prg.shows Prg.good Prg.shw
    simp only [if_true]
    rfl
  have exc : ∀ j k, 1 ≤ j → 1 ≤ k → j ≤ 3 → k ≤ 3 → j ≠ k → (decide ((pwd j).length < s.length) && s.take (pwd j).length == pwd j) = true → cand k s = false := by
    intro j k hj hk hj3 hk3 hne h
    simp only [Bool.and_eq_true, decide_eq_true_eq, beq_iff_eq] at h
    cases hc : cand k s with
    | false => rfl
    | true =>
      exfalso
      unfold cand at hc
      simp only [Bool.and_eq_true, startsB, decide_eq_true_eq, beq_iff_eq] at hc
      have e1 := h.2
      have e2 := hc.1.2
      cases s with
      | nil => simp at h
      | cons b r =>
        have hh : ∀ m, 1 ≤ m → m ≤ 3 → (b :: r).take (pwd m).length = pwd m → b = (pwd m).headD 0 := by
          intro m h1 h3 e
          have : m = 1 ∨ m = 2 ∨ m = 3 := by omega
          rcases this with rfl | rfl | rfl <;> (have := congrArg (fun l => l.headD 0) e; simpa [pwd, w1, w2, w3] using this)
        have a1 := hh j hj hj3 e1
        have a2 := hh k hk hk3 e2
        rw [a1] at a2
        have c1 : j = 1 ∨ j = 2 ∨ j = 3 := by omega
        have c2 : k = 1 ∨ k = 2 ∨ k = 3 := by omega
        rcases c1 with rfl | rfl | rfl <;> rcases c2 with rfl | rfl | rfl <;> first | exact hne rfl | exact absurd a2 (by decide)
  have exc4 : ∀ j, 1 ≤ j → j ≤ 3 → (decide ((pwd j).length < s.length) && s.take (pwd j).length == pwd j) = true → cand 4 s = false := by
    intro j h1 h3 h
    rw [four]
    cases hs : w4 == s with
    | false => rfl
    | true =>
      have : w4 = s := by simpa using hs
      subst this
      have : j = 1 ∨ j = 2 ∨ j = 3 := by omega
      rcases this with rfl | rfl | rfl <;> exact absurd h (by decide)
  unfold rsP rsK
  by_cases q3 : (decide ((pwd (1 + 2)).length < s.length) && s.take (pwd (1 + 2)).length == pwd (1 + 2)) = true
  · rw [if_pos q3, (word 3 (by decide) (by decide)).1 q3]
    cases hc : cand 3 s with
    | true => rw [rdP_some (by decide) (by decide) hc]; rfl
    | false => rw [rdP_none (exc 3 1 (by decide) (by decide) (by decide) (by decide) (by decide) q3) (exc 3 2 (by decide) (by decide) (by decide) (by decide) (by decide) q3) hc (exc4 3 (by decide) (by decide) q3)]; rfl
  have n3 := (word 3 (by decide) (by decide)).2 (by simpa using q3)
  rw [if_neg q3]
  unfold rsK
  by_cases q2 : (decide ((pwd (1 + 1)).length < s.length) && s.take (pwd (1 + 1)).length == pwd (1 + 1)) = true
  · rw [if_pos q2, (word 2 (by decide) (by decide)).1 q2]
    cases hc : cand 2 s with
    | true => rw [rdP_some (by decide) (by decide) hc]; rfl
    | false => rw [rdP_none (exc 2 1 (by decide) (by decide) (by decide) (by decide) (by decide) q2) hc n3 (exc4 2 (by decide) (by decide) q2)]; rfl
  have n2 := (word 2 (by decide) (by decide)).2 (by simpa using q2)
  rw [if_neg q2]
  unfold rsK
  by_cases q1 : (decide ((pwd (1 + 0)).length < s.length) && s.take (pwd (1 + 0)).length == pwd (1 + 0)) = true
  · rw [if_pos q1, (word 1 (by decide) (by decide)).1 q1]
    cases hc : cand 1 s with
    | true => rw [rdP_some (by decide) (by decide) hc]; rfl
    | false => rw [rdP_none hc n2 n3 (exc4 1 (by decide) (by decide) q1)]; rfl
  have n1 := (word 1 (by decide) (by decide)).2 (by simpa using q1)
  rw [if_neg q1]
  unfold rsK
  rw [shows4, ← four]
  cases hc : cand 4 s with
  | true =>
    rw [rdP_some (by decide) (by decide) hc]
    have : w4 = s := by rw [four] at hc; simpa using hc
    subst this
    rfl
  | false => rw [rdP_none n1 n2 n3 hc]; rfl
end Go.Proofs.YtfdmlccbfbiloaaGreatDoor
namespace Go.Proofs.YtfdmlccbfbiloaaGreatDoor
open Go Go.Proofs.YtfdmlccbfbiloaaGreatDoor.Vs
variable [Gl]
set_option linter.unusedSectionVars false

/-! #### a purge is read, both -/
theorem rdV_some {s : List UInt8} {p : Prg} (h : rdP s = some p) : rdV s = .tup [p.vs, .val (.bool true)] := by unfold rdV; rw [h]; rfl
theorem rdV_none {s : List UInt8} (h : rdP s = none) : rdV s = .tup [zPrg.vs, .val (.bool false)] := by unfold rdV; rw [h]; rfl
theorem hasPrefix_starts (l p : List UInt8) : Lib.hasPrefix l p = startsB l p := by
  unfold Lib.hasPrefix startsB
  rw [Bool.eq_iff_iff]
  simp only [Bool.and_eq_true, decide_eq_true_eq, beq_iff_eq]
  rw [List.isPrefixOf_iff_prefix]
  constructor
  · intro h; exact ⟨h.length_le, (List.prefix_iff_eq_take.1 h).symm⟩
  · rintro ⟨_, h⟩; exact List.prefix_iff_eq_take.2 h.symm
def pwB (k : Nat) : ByteArray := bs (pwd k)
theorem purgeWords_c : VC Tryz.prog 134 [] (.own 1 [strC ⟨⟨[]⟩⟩, strC (pwB 1), strC (pwB 2), strC (pwB 3), strC (pwB 4)]) := by
  refine VC.intro hΘ Tryz.func134 rfl rfl Tryz.ntmps134 rfl rfl rfl fun B hB => ?_
  (conv => whnf)
  exact vfin_own rfl
theorem readPurgeI_c (s : ByteArray) (hs : (sb s).length ≤ 140737488355328) : VC Tryz.prog 98 [.val (.string s)] (rdV (sb s)) := by
  refine VC.intro hΘ Tryz.func98 rfl rfl Tryz.ntmps98 rfl rfl rfl fun B hB => ?_
  (conv => whnf)
  refine vloop_intro hΘ hB (ι := Nat) (fun k => ⟨[(0, .val (.string s)), (2, .ptr 2 0), (4, .val (.int .i64 k))], [(2, [.val (.int .i64 0), .val (.string ⟨⟨[]⟩⟩)])]⟩) (fun k => 1 ≤ k ∧ k ≤ 5 ∧ rdFrom (5 - k) k (sb s) = rdP (sb s)) (fun k => 5 - k) 1
    ⟨⟨.inr rfl, .inr rfl, .inr rfl, trivial⟩, ⟨⟨.inr rfl, .inr rfl, trivial⟩, trivial⟩⟩ ⟨by omega, by omega, rfl⟩ ?_
  rintro k ⟨k0, k1, k2⟩
  (conv => whnf)
  refine brm_p (fun h => ?_) (fun h => ?_) <;> (conv => whnf)
  · have hk4 : k ≤ 4 := by omega
    obtain ⟨d, hd⟩ : ∃ d, 5 - k = d + 1 := ⟨4 - k, by omega⟩
    have hd' : d = 5 - (k + 1) := by omega
    rw [hd, rdFrom, hd'] at k2
    have hw := wrap_succ (i := k) (by omega)
    have hat : ([strC ⟨⟨[]⟩⟩, strC (pwB 1), strC (pwB 2), strC (pwB 3), strC (pwB 4)] : List (List C))[k]? = some [C.v (.string (pwB k))] := by
      have : k = 1 ∨ k = 2 ∨ k = 3 ∨ k = 4 := by omega
      rcases this with rfl | rfl | rfl | rfl <;> rfl
    refine vcallS_intro0 rfl purgeWords_c f0 ?_
    (conv => whnf)
    refine vix_intro k rfl (by show k < 5; omega) ?_
    (conv => whnf)
    refine vat_intro k _ rfl hat ?_
    (conv => whnf)
    have cc := cutPrefix_c s (pwB k)
    have hcp : Lib.hasPrefix (sb s) (sb (pwB k)) = startsB (sb s) (pwd k) := hasPrefix_starts _ _
    cases hsb : startsB (sb s) (pwd k) with
    | false =>
      rw [hcp, hsb] at cc
      have hc : cand k (sb s) = false := by unfold cand; rw [hsb]; rfl
      rw [hc] at k2
      refine vcallS_intro0 rfl cc (f1 (av rfl) (f1 (av rfl) f0)) ?_
      (conv => whnf)
      exact ⟨k + 1, ⟨⟨.inr rfl, .inr rfl, .inr (vint_eq hw), trivial⟩, ⟨⟨.inr rfl, .inr rfl, trivial⟩, trivial⟩⟩, ⟨by omega, by omega, k2⟩, by omega⟩
    | true =>
      have ht : Lib.trimPrefix (sb s) (sb (pwB k)) = (sb s).drop (pwd k).length := by
        unfold Lib.trimPrefix; rw [hcp, hsb, if_pos rfl]; rfl
      rw [hcp, hsb, ht] at cc
      refine vcallS_intro0 rfl cc (f1 (av rfl) (f1 (av rfl) f0)) ?_
      (conv => whnf)
      have hpl : (sb (pOf k (sb s)).t).length ≤ 140737488355328 := by
        show (sb (bs _)).length ≤ _
        rw [sb_bs, List.length_drop]; omega
      have hc : cand k (sb s) = (pOf k (sb s)).good := by unfold cand; rw [hsb, Bool.true_and]
      refine call_bb rfl (purgeOkI_c (pOf k (sb s)) hpl) (f1 (fa (l1 (fv rfl) (l1 (fv rfl) l0))) f0) (fun hg => ?_) (fun hg => ?_) <;> (conv => whnf)
      · rw [hc, hg, if_pos rfl] at k2
        rw [rdV_some k2.symm]
        exact vfin_tup2 rfl rfl
      · rw [hc, hg] at k2
        exact ⟨k + 1, ⟨⟨.inr rfl, .inr rfl, .inr (vint_eq hw), trivial⟩, ⟨⟨.inr rfl, .inr rfl, trivial⟩, trivial⟩⟩, ⟨by omega, by omega, k2⟩, by omega⟩
  · have : 5 - k = 0 := by omega
    rw [this] at k2
    rw [rdV_none (show rdP (sb s) = none from k2.symm)]
    exact vfin_tup2 rfl rfl
end Go.Proofs.YtfdmlccbfbiloaaGreatDoor
namespace Go.Proofs.YtfdmlccbfbiloaaGreatDoor
open Go Go.Proofs.YtfdmlccbfbiloaaGreatDoor.Vs
variable [Gl]
set_option linter.unusedSectionVars false

/-! #### a purge is read, the reference's -/
set_option maxRecDepth 100000 in
theorem l15Show_c (p : Prg) (hg : p.good = true) : VC Tryz.prog 131 [p.vs] (.val (.string (bs p.shw))) := by
  refine VC.intro hΘ Tryz.func131 rfl rfl Tryz.ntmps131 rfl rfl rfl fun B hB => ?_
  (conv => whnf)
  obtain ⟨k, t⟩ := p
  refine brm_eq (fun h => ?_) (fun h => ?_) <;> (conv => whnf)
  · have h : k = 4 := h
    subst h
    exact vfin_str rfl
  have h : ¬ k = 4 := h
  have hk : (k = 1 ∨ k = 2 ∨ k = 3) ∧ (sb t).length ≤ 200 := by
    unfold Prg.good at hg
    simp only [h, if_false, inR, Bool.and_eq_true, decide_eq_true_eq] at hg
    exact ⟨by omega, hg.1.2⟩
  obtain ⟨hk, hl⟩ := hk
  rcases hk with rfl | rfl | rfl
  · refine vdrawG_intro hΘ hB mixed 9 rfl rfl ?_
    (conv => whnf)
    refine vix_intro 0 rfl (by decide) ?_
    (conv => whnf)
    refine vat_intro 0 (strC (pwB 1)) rfl rfl ?_
    (conv => whnf)
    refine vreq_intro (cat_ok (by decide) (by show (sb t).length ≤ _; omega)) ?_
    (conv => whnf)
    refine ⟨rfl, ?_⟩
    (conv => whnf)
    exact vfin_str rfl
  · refine vdrawG_intro hΘ hB mixed 9 rfl rfl ?_
    (conv => whnf)
    refine vix_intro 1 rfl (by decide) ?_
    (conv => whnf)
    refine vat_intro 1 (strC (pwB 2)) rfl rfl ?_
    (conv => whnf)
    refine vreq_intro (cat_ok (by decide) (by show (sb t).length ≤ _; omega)) ?_
    (conv => whnf)
    refine ⟨rfl, ?_⟩
    (conv => whnf)
    exact vfin_str rfl
  · refine vdrawG_intro hΘ hB mixed 9 rfl rfl ?_
    (conv => whnf)
    refine vix_intro 2 rfl (by decide) ?_
    (conv => whnf)
    refine vat_intro 2 (strC (pwB 3)) rfl rfl ?_
    (conv => whnf)
    refine vreq_intro (cat_ok (by decide) (by show (sb t).length ≤ _; omega)) ?_
    (conv => whnf)
    refine ⟨rfl, ?_⟩
    (conv => whnf)
    exact vfin_str rfl
def Prg.txt (p : Prg) : List UInt8 := if p.good then p.shw else []
theorem showPurgeS_c (p : Prg) (hp : (sb p.t).length ≤ 140737488355328) : VC Tryz.prog 95 [p.vs] (.val (.string (bs p.txt))) := by
  refine VC.intro hΘ Tryz.func95 rfl rfl Tryz.ntmps95 rfl rfl rfl fun B hB => ?_
  (conv => whnf)
  refine call_bb rfl (purgeOkS_c p hp) (f1 (fa (l1 (fv rfl) (l1 (fv rfl) l0))) f0) (fun h => ?_) (fun h => ?_) <;> (conv => whnf)
  · refine vcallS_intro0 rfl (l15Show_c p h) (f1 (fa (l1 (fv rfl) (l1 (fv rfl) l0))) f0) ?_
    (conv => whnf)
    exact vfin_str (by unfold Prg.txt; rw [if_pos h])
  · exact vfin_str (by unfold Prg.txt; rw [h]; rfl)
theorem rsK_len (s : List UInt8) : ∀ n, (sb (rsK s 1 n).t).length ≤ s.length
  | 0 => by simp [rsK, sb]
  | n + 1 => by
    unfold rsK
    split
    · show (sb (bs _)).length ≤ _
      rw [sb_bs, List.length_drop]; omega
    · exact rsK_len s n
set_option maxRecDepth 100000 in
theorem readPurgeS_c (s : ByteArray) (hs : (sb s).length ≤ 140737488355328) : VC Tryz.prog 54 [.val (.string s)] (rdV (sb s)) := by
  refine VC.intro hΘ Tryz.func54 rfl rfl Tryz.ntmps54 rfl rfl rfl fun B hB => ?_
  (conv => whnf)
  refine vloop_intro hΘ hB (ι := Nat × Prg) (fun x => ⟨[(0, .val (.string s)), (2, .ptr 2 0), (4, .ptr 4 0), (5, .own 1 [strC (pwB 1), strC (pwB 2), strC (pwB 3)]), (6, .val (.int .i64 x.1))], [(2, [.val (.int .i64 0), .val (.string ⟨⟨[]⟩⟩)]), (4, [.val (.int .i64 x.2.k), .val (.string x.2.t)])]⟩) (fun x => x.1 ≤ 3 ∧ x.2 = rsK (sb s) 1 x.1) (fun x => 3 - x.1) (0, ⟨4, ⟨⟨[]⟩⟩⟩)
    ⟨⟨.inr rfl, .inr rfl, .inr rfl, .inr rfl, .inr rfl, trivial⟩, ⟨⟨.inr rfl, .inr rfl, trivial⟩, ⟨.inr rfl, .inr rfl, trivial⟩, trivial⟩⟩ ⟨by simp only; omega, rfl⟩ ?_
  rintro ⟨i, p⟩ ⟨k1, k2⟩
  simp only at k1 k2
  (conv => whnf)
  refine brm_p (fun h => ?_) (fun h => ?_) <;> (conv => whnf)
  · have hi : i < 3 := by have : (i : Int) < 3 := h; omega
    have hw := wrap_succ (i := i) (by omega)
    have hat : ([strC (pwB 1), strC (pwB 2), strC (pwB 3)] : List (List C))[i]? = some [C.v (.string (pwB (1 + i)))] := by
      have : i = 0 ∨ i = 1 ∨ i = 2 := by omega
      rcases this with rfl | rfl | rfl <;> rfl
    have hwl : (sb (pwB (1 + i))).length ≤ 6 := by
      have : i = 0 ∨ i = 1 ∨ i = 2 := by omega
      rcases this with rfl | rfl | rfl <;> decide
    refine vix_intro i rfl (by show i < 3; omega) ?_
    (conv => whnf)
    refine vat_intro i _ rfl hat ?_
    (conv => whnf)
    refine vdraw_intro hΘ hB mixed (by kernel_rfl) ?_
    (conv => whnf)
    refine brm_p (fun h2 => ?_) (fun h2 => ?_) <;> (conv => whnf)
    · refine vrange_intro 0 (sb (pwB (1 + i))).length rfl rfl (by omega) (by omega) ?_
      (conv => whnf)
      refine vix_intro i rfl (by show i < 3; omega) ?_
      (conv => whnf)
      refine vat_intro i _ rfl hat ?_
      (conv => whnf)
      refine brm_eq (fun h3 => ?_) (fun h3 => ?_) <;> (conv => whnf)
      · refine vrange_intro (sb (pwB (1 + i))).length (sb s).length rfl rfl (by omega) (by omega) ?_
        (conv => whnf)
        have hc : (decide ((pwd (1 + i)).length < (sb s).length) && (sb s).take (pwd (1 + i)).length == pwd (1 + i)) = true := by
          simp only [Bool.and_eq_true, decide_eq_true_eq, beq_iff_eq]
          exact ⟨by have : (sb (pwB (1 + i))).length = (pwd (1 + i)).length := rfl
                    omega, h3⟩
        have hr : rsK (sb s) 1 (i + 1) = pOf (1 + i) (sb s) := by unfold rsK; rw [if_pos hc]
        have e : ((sb s).drop (sb (pwB (1 + i))).length).take ((sb s).length - (sb (pwB (1 + i))).length) = (sb s).drop (pwd (1 + i)).length := List.take_of_length_le (by simp [pwB, sb_bs])
        rw [e]
        exact ⟨(i + 1, pOf (1 + i) (sb s)), ⟨⟨.inr rfl, .inr rfl, .inr rfl, .inr rfl, .inr (vint_eq hw), trivial⟩, ⟨⟨.inr rfl, .inr rfl, trivial⟩, ⟨.inr (vint_eq (by rw [hw, Nat.add_comm]; rfl)), .inr rfl, trivial⟩, trivial⟩⟩, ⟨by simp only; omega, hr.symm⟩, by simp only; omega⟩
      · have hc : ¬ (decide ((pwd (1 + i)).length < (sb s).length) && (sb s).take (pwd (1 + i)).length == pwd (1 + i)) = true := by
          simp only [Bool.and_eq_true, decide_eq_true_eq, beq_iff_eq]
          exact fun e => h3 e.2
        have hr : rsK (sb s) 1 (i + 1) = rsK (sb s) 1 i := by rw [rsK, if_neg hc]
        exact ⟨(i + 1, p), ⟨⟨.inr rfl, .inr rfl, .inr rfl, .inr rfl, .inr (vint_eq hw), trivial⟩, ⟨⟨.inr rfl, .inr rfl, trivial⟩, ⟨.inr rfl, .inr rfl, trivial⟩, trivial⟩⟩, ⟨by simp only; omega, by rw [hr]; exact k2⟩, by simp only; omega⟩
    · have hc : ¬ (decide ((pwd (1 + i)).length < (sb s).length) && (sb s).take (pwd (1 + i)).length == pwd (1 + i)) = true := by
        simp only [Bool.and_eq_true, decide_eq_true_eq]
        rintro ⟨e, _⟩
        have : (sb (pwB (1 + i))).length = (pwd (1 + i)).length := rfl
        omega
      have hr : rsK (sb s) 1 (i + 1) = rsK (sb s) 1 i := by rw [rsK, if_neg hc]
      exact ⟨(i + 1, p), ⟨⟨.inr rfl, .inr rfl, .inr rfl, .inr rfl, .inr (vint_eq hw), trivial⟩, ⟨⟨.inr rfl, .inr rfl, trivial⟩, ⟨.inr rfl, .inr rfl, trivial⟩, trivial⟩⟩, ⟨by simp only; omega, by rw [hr]; exact k2⟩, by simp only; omega⟩
  · have hi : i = 3 := by have : ¬ (i : Int) < 3 := h; omega
    subst hi
    have hp : p = rsP (sb s) := k2
    have hpl : (sb p.t).length ≤ 140737488355328 := by rw [k2]; exact Nat.le_trans (rsK_len _ _) hs
    refine call_l rfl (showPurgeS_c p hpl) (f1 (fa (l1 (fv rfl) (l1 (fv rfl) l0))) f0) fun y hy => ?_
    (conv => whnf)
    refine brm_ne' (fun h4 => ?_) (fun h4 => ?_) <;> (conv => whnf)
    · have : rdP (sb s) = none := by
        rw [rdP_rs, ← hp, if_neg]
        unfold Prg.shows
        rw [show (if p.good = true then p.shw else []) = y from hy.symm]
        rw [sb_bs] at h4; simpa using h4
      rw [rdV_none this]
      exact vfin_tup2 rfl rfl
    · have : rdP (sb s) = some p := by
        rw [rdP_rs, ← hp, if_pos]
        unfold Prg.shows
        rw [show (if p.good = true then p.shw else []) = y from hy.symm]
        rw [sb_bs] at h4; simpa using h4
      rw [rdV_some this]
      exact vfin_tup2 rfl rfl
end Go.Proofs.YtfdmlccbfbiloaaGreatDoor
namespace Go.Proofs.YtfdmlccbfbiloaaGreatDoor
open Go Go.Proofs.YtfdmlccbfbiloaaGreatDoor.Vs
variable [Gl]
set_option linter.unusedSectionVars false

/-! #### logs -/
theorem indexFn0_c (f : Nat) (p : ByteArray → Bool) (ns : List ByteArray) (hp : ∀ n ∈ ns, VC Tryz.prog f [.val (.string n)] (.val (.bool (p n)))) (hl : ns.length ≤ 140737488355328) :
    VC Tryz.prog 132 [.rd none (.sl true 1 (ns.map strC)), .val (fnV f)] (.val (.int .i64 (idxFn p ns 0))) := by
  refine VC.intro hΘ Tryz.func132 rfl rfl Tryz.ntmps132 rfl rfl rfl fun B hB => ?_
  (conv => whnf)
  refine vloop_intro hΘ hB (ι := Nat) (fun i => ⟨[(0, .rd none (.sl true 1 (ns.map strC))), (1, .val (fnV f)), (7, .val (.int .i64 (ns.map strC).length)), (8, .val (.int .i64 i))], []⟩)
    (fun i => i ≤ ns.length ∧ idxFn p (ns.drop i) i = idxFn p ns 0) (fun i => ns.length - i) 0 ⟨⟨.inr rfl, .inr rfl, .inr rfl, .inr rfl, trivial⟩, trivial⟩ ⟨Nat.zero_le _, rfl⟩ ?_
  rintro i ⟨k1, k2⟩
  (conv => whnf)
  rw [List.length_map]
  refine brm_p (fun h => ?_) (fun h => ?_) <;> (conv => whnf)
  · obtain ⟨x, hg, hm, hd⟩ := drop_at (xs := ns) (i := i) (by omega)
    rw [hd, idxFn] at k2
    refine vat_intro i _ rfl (strs_at hg) ?_
    (conv => whnf)
    refine call_bb rfl (hp x hm) (f1 (av rfl) f0) (fun h2 => ?_) (fun h2 => ?_) <;> (conv => whnf)
    · refine vfin_int ?_
      rw [h2, if_pos rfl] at k2
      exact k2
    · rw [h2] at k2
      simp only [Bool.false_eq_true, if_false] at k2
      exact ⟨i + 1, ⟨⟨.inr rfl, .inr rfl, .inr rfl, .inr (vint_eq (wrap_succ (by omega))), trivial⟩, trivial⟩, ⟨by omega, k2⟩, by omega⟩
  · refine vfin_int ?_
    have : ns.drop i = [] := List.drop_eq_nil_of_le (by omega)
    rw [this] at k2
    exact k2
theorem containsFn0_c (f : Nat) (p : ByteArray → Bool) (ns : List ByteArray) (hp : ∀ n ∈ ns, VC Tryz.prog f [.val (.string n)] (.val (.bool (p n)))) (hl : ns.length ≤ 140737488355328) :
    VC Tryz.prog 96 [.rd none (.sl true 1 (ns.map strC)), .val (fnV f)] (.val (.bool (ns.any p))) := by
  refine VC.intro hΘ Tryz.func96 rfl rfl Tryz.ntmps96 rfl rfl rfl fun B hB => ?_
  (conv => whnf)
  refine vcallS_intro0 rfl (indexFn0_c f p ns hp hl) (f1 (ar rfl rfl) (f1 (av rfl) f0)) ?_
  (conv => whnf)
  exact vfin_bool (idxFn_nonneg p ns 0)
def isP (s : ByteArray) : Bool := (rdP (sb s)).isSome
def logOk (xs : List ByteArray) : Bool := decide (xs.length ≤ 60) && xs.all isP
def strOk (xs : List ByteArray) : Prop := xs.length ≤ 140737488355328 ∧ ∀ x ∈ xs, (sb x).length ≤ 140737488355328
def rdS (xs : List ByteArray) : V := .rd none (.sl true 1 (xs.map strC))
theorem logFn_c (s : ByteArray) (hs : (sb s).length ≤ 140737488355328) : VC Tryz.prog 97 [.val (.string s)] (.val (.bool (!isP s))) := by
  have c1 := readPurgeI_c s hs
  unfold rdV at c1
  unfold isP
  generalize (rdP (sb s)).getD zPrg = p at c1
  generalize (rdP (sb s)).isSome = b at c1 ⊢
  refine VC.intro hΘ Tryz.func97 rfl rfl Tryz.ntmps97 rfl rfl rfl fun B hB => ?_
  (conv => whnf)
  refine vcallS_intro0 rfl c1 (f1 (av rfl) f0) ?_
  (conv => whnf)
  exact vfin_bool rfl
theorem logOkI_c (xs : List ByteArray) (hx : strOk xs) : VC Tryz.prog 55 [rdS xs] (.val (.bool (logOk xs))) := by
  refine VC.intro hΘ Tryz.func55 rfl rfl Tryz.ntmps55 rfl rfl rfl fun B hB => ?_
  (conv => whnf)
  rw [List.length_map]
  refine brm_p (fun h => ?_) (fun h => ?_) <;> (conv => whnf)
  · refine vcallS_intro0 rfl (containsFn0_c 97 (fun s => !isP s) xs (fun n hn => logFn_c n (hx.2 n hn)) hx.1) (f1 (ar rfl rfl) (f1 (av rfl) f0)) ?_
    (conv => whnf)
    refine vfin_bool ?_
    unfold logOk
    rw [decide_eq_true (by omega : xs.length ≤ 60), ← List.not_all_eq_any_not, Bool.not_not]; rfl
  · exact vfin_bool (by unfold logOk; rw [decide_eq_false (by omega)]; rfl)
theorem logOkS_c (xs : List ByteArray) (hx : strOk xs) : VC Tryz.prog 53 [rdS xs] (.val (.bool (logOk xs))) := by
  have hl := hx.1
  refine VC.intro hΘ Tryz.func53 rfl rfl Tryz.ntmps53 rfl rfl rfl fun B hB => ?_
  (conv => whnf)
  rw [List.length_map]
  refine brm_p (fun h => ?_) (fun h => ?_) <;> (conv => whnf)
  · exact vfin_bool (by unfold logOk; rw [decide_eq_false (by omega)]; rfl)
  have hT : logOk xs = xs.all isP := by unfold logOk; rw [decide_eq_true (by omega)]; rfl
  rw [hT]
  refine vloop_intro hΘ hB (ι := Nat) (fun i => ⟨[(0, rdS xs), (3, .val (.int .i64 i))], []⟩) (fun i => i ≤ xs.length ∧ (xs.drop i).all isP = xs.all isP) (fun i => xs.length - i) 0
    ⟨⟨.inr rfl, .inr rfl, trivial⟩, trivial⟩ ⟨Nat.zero_le _, rfl⟩ ?_
  rintro i ⟨k1, k2⟩
  (conv => whnf)
  rw [List.length_map]
  refine brm_p (fun h => ?_) (fun h => ?_) <;> (conv => whnf)
  · obtain ⟨x, hg, hm, hd⟩ := drop_at (xs := xs) (i := i) (by omega)
    rw [hd, List.all_cons] at k2
    have c1 := readPurgeS_c x (hx.2 x hm)
    unfold rdV at c1
    have hb : isP x = (rdP (sb x)).isSome := rfl
    generalize (rdP (sb x)).getD zPrg = p at c1
    rw [← hb] at c1
    refine vat_intro i _ rfl (strs_at hg) ?_
    (conv => whnf)
    cases hp : isP x with
    | true =>
      rw [hp] at c1 k2
      refine vcallS_intro0 rfl c1 (f1 (av rfl) f0) ?_
      (conv => whnf)
      exact ⟨i + 1, ⟨⟨.inr rfl, .inr (vint_eq (wrap_succ (by omega))), trivial⟩, trivial⟩, ⟨by omega, by simpa using k2⟩, by omega⟩
    | false =>
      rw [hp] at c1 k2
      refine vcallS_intro0 rfl c1 (f1 (av rfl) f0) ?_
      (conv => whnf)
      exact vfin_bool (by rw [← k2]; rfl)
  · refine vfin_bool ?_
    have : xs.drop i = [] := List.drop_eq_nil_of_le (by omega)
    rw [this] at k2
    rw [← k2]; rfl

/-! #### barred -/
def prgOf (s : ByteArray) : Prg := (rdP (sb s)).getD zPrg
def barB (xs : List ByteArray) (o : Obj) : Bool := (xs.drop o.ep.toNat).any fun s => (prgOf s).hits o
def barA (xs : List ByteArray) (o : Obj) : Bool := (!logOk xs || !o.good) || barB xs o
theorem rdFrom_len : ∀ (n k : Nat) (s : List UInt8), (sb ((rdFrom n k s).getD zPrg).t).length ≤ s.length
  | 0, k, s => by simp [rdFrom, zPrg, sb]
  | n + 1, k, s => by
    unfold rdFrom
    split
    · show (sb (bs _)).length ≤ _
      rw [sb_bs, List.length_drop]; omega
    · exact rdFrom_len n (k + 1) s
theorem prgOf_len (s : ByteArray) : (sb (prgOf s).t).length ≤ (sb s).length := rdFrom_len 4 1 (sb s)
theorem ep_of {o : Obj} (h : o.good = true) : 0 ≤ o.ep ∧ o.ep ≤ 100000 := by
  unfold Obj.good at h
  simp only [Bool.and_eq_true] at h
  have := h.2
  simpa [inR] using this
theorem barredI_c (xs : List ByteArray) (o : Obj) (hx : strOk xs) (ho : o.ok) (hg : o.good = true) : VC Tryz.prog 56 [rdS xs, o.rd] (.val (.bool (barB xs o))) := by
  have hl := hx.1
  have he := ep_of hg
  have hf := (good_fs hg).2
  refine VC.intro hΘ Tryz.func56 rfl rfl Tryz.ntmps56 rfl rfl rfl fun B hB => ?_
  (conv => whnf)
  refine vloop_intro hΘ hB (ι := Nat) (fun i => ⟨[(3, .ptr 3 0), (9, rdS xs), (10, .val (.int .i64 (xs.map strC).length)), (11, .val (.int .i64 i))], [(3, [.val (.string o.key), rdF o.fs, .val (.int .i64 o.r.st), rdF o.r.fs, .val (.string o.r.bd), .val (.int .i64 o.asked), .val (.int .i64 o.got), .val (.int .i64 o.ep)])]⟩) (fun i => i ≤ xs.length ∧ ((xs.drop (max i o.ep.toNat)).any fun s => (prgOf s).hits o) = barB xs o) (fun i => xs.length - i) 0
    ⟨⟨.inr rfl, .inr rfl, .inr rfl, .inr rfl, trivial⟩, ⟨⟨.inr rfl, .inr rfl, .inr rfl, .inr rfl, .inr rfl, .inr rfl, .inr rfl, .inr rfl, trivial⟩, trivial⟩⟩ ⟨Nat.zero_le _, by rw [Nat.zero_max]; rfl⟩ ?_
  rintro i ⟨k1, k2⟩
  (conv => whnf)
  rw [List.length_map]
  refine brm_p (fun h => ?_) (fun h => ?_) <;> (conv => whnf)
  · have hi : i < xs.length := by omega
    obtain ⟨x, hgt, hm, hd⟩ := drop_at (xs := xs) hi
    have hw := wrap_succ (i := i) (by omega)
    have c1 := readPurgeI_c x (hx.2 x hm)
    unfold rdV at c1
    rw [show (rdP (sb x)).getD zPrg = prgOf x from rfl] at c1
    generalize (rdP (sb x)).isSome = bb at c1
    refine vat_intro i _ rfl (strs_at hgt) ?_
    (conv => whnf)
    refine vcallS_intro0 rfl c1 (f1 (av rfl) f0) ?_
    (conv => whnf)
    refine brm_p (fun h2 => ?_) (fun h2 => ?_) <;> (conv => whnf)
    · have hmx : max i o.ep.toNat = i := by omega
      rw [hmx, hd, List.any_cons] at k2
      have hmx2 : max (i + 1) o.ep.toNat = i + 1 := by omega
      have c2 := hitsI_c (prgOf x) o ho hf (tagJoin_len hf)
      refine call_bb rfl c2 (f1 (fa (l1 (fv rfl) (l1 (fv rfl) l0))) (f1 (fa (l1 (fv rfl) (l1 (fr rfl rfl) (l1 (fv rfl) (l1 (fr rfl rfl) (l1 (fv rfl) (l1 (fv rfl) (l1 (fv rfl) (l1 (fv rfl) l0))))))))) f0)) (fun h3 => ?_) (fun h3 => ?_) <;> (conv => whnf)
      · exact vfin_bool (by rw [← k2, h3]; rfl)
      · rw [h3, Bool.false_or] at k2
        exact ⟨i + 1, ⟨⟨.inr rfl, .inr rfl, .inr rfl, .inr (vint_eq hw), trivial⟩, ⟨⟨.inr rfl, .inr rfl, .inr rfl, .inr rfl, .inr rfl, .inr rfl, .inr rfl, .inr rfl, trivial⟩, trivial⟩⟩, ⟨by omega, by rw [hmx2]; exact k2⟩, by omega⟩
    · have hmx : max i o.ep.toNat = o.ep.toNat := by omega
      have hmx2 : max (i + 1) o.ep.toNat = o.ep.toNat := by omega
      rw [hmx] at k2
      exact ⟨i + 1, ⟨⟨.inr rfl, .inr rfl, .inr rfl, .inr (vint_eq hw), trivial⟩, ⟨⟨.inr rfl, .inr rfl, .inr rfl, .inr rfl, .inr rfl, .inr rfl, .inr rfl, .inr rfl, trivial⟩, trivial⟩⟩, ⟨by omega, by rw [hmx2]; exact k2⟩, by omega⟩
  · refine vfin_bool ?_
    have : xs.drop (max i o.ep.toNat) = [] := List.drop_eq_nil_of_le (by omega)
    rw [this] at k2
    rw [← k2]; rfl
theorem barredIm_c (xs : List ByteArray) (o : Obj) (hx : strOk xs) (ho : o.ok) : VC Tryz.prog 21 [rdS xs, o.rd] (.val (.bool (barA xs o))) := by
  refine VC.intro hΘ Tryz.func21 rfl rfl Tryz.ntmps21 rfl rfl rfl fun B hB => ?_
  (conv => whnf)
  refine call_bb rfl (logOkI_c xs hx) (f1 (ar rfl rfl) f0) (fun h1 => ?_) (fun h1 => ?_) <;> (conv => whnf)
  rotate_left
  · exact vfin_bool (by unfold barA; rw [h1]; rfl)
  refine call_bb rfl (objectOkI_c o ho) (f1 (fa (l1 (fv rfl) (l1 (fr rfl rfl) (l1 (fv rfl) (l1 (fr rfl rfl) (l1 (fv rfl) (l1 (fv rfl) (l1 (fv rfl) (l1 (fv rfl) l0))))))))) f0) (fun h2 => ?_) (fun h2 => ?_) <;> (conv => whnf)
  rotate_left
  · exact vfin_bool (by unfold barA; rw [h1, h2]; rfl)
  refine vcallS_intro0 rfl (barredI_c xs o hx ho h2) (f1 (ar rfl rfl) (f1 (fa (l1 (fv rfl) (l1 (fr rfl rfl) (l1 (fv rfl) (l1 (fr rfl rfl) (l1 (fv rfl) (l1 (fv rfl) (l1 (fv rfl) (l1 (fv rfl) l0))))))))) f0)) ?_
  (conv => whnf)
  exact vfin_bool (by unfold barA; rw [h1, h2]; rfl)
theorem barredSp_c (xs : List ByteArray) (o : Obj) (m : Nat) (hx : strOk xs) (ho : o.ok) (hv : ∀ x ∈ o.r.fs, (sb x.2).length ≤ m) (hlm : o.r.fs.length * (m + 2) ≤ 4222124650659900) : VC Tryz.prog 19 [rdS xs, o.rd] (.val (.bool (barA xs o))) := by
  have hl := hx.1
  refine VC.intro hΘ Tryz.func19 rfl rfl Tryz.ntmps19 rfl rfl rfl fun B hB => ?_
  (conv => whnf)
  refine call_bb rfl (logOkS_c xs hx) (f1 (ar rfl rfl) f0) (fun h1 => ?_) (fun h1 => ?_) <;> (conv => whnf)
  rotate_left
  · exact vfin_bool (by unfold barA; rw [h1]; rfl)
  refine call_bb rfl (objectOkS_c o m ho hv hlm) (f1 (fa (l1 (fv rfl) (l1 (fr rfl rfl) (l1 (fv rfl) (l1 (fr rfl rfl) (l1 (fv rfl) (l1 (fv rfl) (l1 (fv rfl) (l1 (fv rfl) l0))))))))) f0) (fun h2 => ?_) (fun h2 => ?_) <;> (conv => whnf)
  rotate_left
  · exact vfin_bool (by unfold barA; rw [h1, h2]; rfl)
  have hT : barA xs o = barB xs o := by unfold barA; rw [h1, h2]; rfl
  rw [hT]
  have he := ep_of h2
  have hf := (good_fs h2).2
  refine vloop_intro hΘ hB (ι := Nat) (fun i => ⟨[(0, rdS xs), (3, .ptr 3 0), (5, .val (.int .i64 i))], [(3, [.val (.string o.key), rdF o.fs, .val (.int .i64 o.r.st), rdF o.r.fs, .val (.string o.r.bd), .val (.int .i64 o.asked), .val (.int .i64 o.got), .val (.int .i64 o.ep)])]⟩) (fun i => i ≤ 200000 + xs.length ∧ ((xs.drop i).any fun s => (prgOf s).hits o) = barB xs o) (fun i => xs.length - i) o.ep.toNat
    ⟨⟨.inr rfl, .inr rfl, .inr (vint_eq (by omega)), trivial⟩, ⟨⟨.inr rfl, .inr rfl, .inr rfl, .inr rfl, .inr rfl, .inr rfl, .inr rfl, .inr rfl, trivial⟩, trivial⟩⟩ ⟨by omega, rfl⟩ ?_
  rintro i ⟨k1, k2⟩
  (conv => whnf)
  rw [List.length_map]
  refine brm_p (fun h => ?_) (fun h => ?_) <;> (conv => whnf)
  · have hi : i < xs.length := by omega
    obtain ⟨x, hgt, hm, hd⟩ := drop_at (xs := xs) hi
    have hw := wrap_succ (i := i) (by omega)
    have c1 := readPurgeS_c x (hx.2 x hm)
    unfold rdV at c1
    rw [show (rdP (sb x)).getD zPrg = prgOf x from rfl] at c1
    generalize (rdP (sb x)).isSome = bb at c1
    rw [hd, List.any_cons] at k2
    refine vat_intro i _ rfl (strs_at hgt) ?_
    (conv => whnf)
    refine vcallS_intro0 rfl c1 (f1 (av rfl) f0) ?_
    (conv => whnf)
    have c2 := l15Hits_c (prgOf x) o (Nat.le_trans (prgOf_len x) (hx.2 x hm)) ho hf (tagJoin_len hf)
    refine call_bb rfl c2 (f1 (fa (l1 (fv rfl) (l1 (fv rfl) l0))) (f1 (fa (l1 (fv rfl) (l1 (fr rfl rfl) (l1 (fv rfl) (l1 (fr rfl rfl) (l1 (fv rfl) (l1 (fv rfl) (l1 (fv rfl) (l1 (fv rfl) l0))))))))) f0)) (fun h3 => ?_) (fun h3 => ?_) <;> (conv => whnf)
    · exact vfin_bool (by rw [← k2, h3]; rfl)
    · rw [h3, Bool.false_or] at k2
      exact ⟨i + 1, ⟨⟨.inr rfl, .inr rfl, .inr (vint_eq hw), trivial⟩, ⟨⟨.inr rfl, .inr rfl, .inr rfl, .inr rfl, .inr rfl, .inr rfl, .inr rfl, .inr rfl, trivial⟩, trivial⟩⟩, ⟨by omega, k2⟩, by omega⟩
  · refine vfin_bool ?_
    have : xs.drop i = [] := List.drop_eq_nil_of_le (by omega)
    rw [this] at k2
    rw [← k2]; rfl
end Go.Proofs.YtfdmlccbfbiloaaGreatDoor
namespace Go.Proofs.YtfdmlccbfbiloaaGreatDoor
open Go Go.Proofs.YtfdmlccbfbiloaaGreatDoor.Vs
variable [Gl]
set_option linter.unusedSectionVars false

/-! #### lists of texts, the law's own -/
def szS (l : Int) : List ByteArray → Int
  | [] => l
  | x :: r => if l - (sb x).length < 0 then -1 else szS (l - (sb x).length) r
def szSL (l : Int) (xs : List ByteArray) : Int := if l - xs.length < 0 then -1 else szS (l - xs.length) xs
theorem szS_le : ∀ {xs : List ByteArray} {l : Int}, 0 ≤ l → szS l xs ≤ l
  | [], l, _ => Int.le_refl _
  | x :: r, l, h => by
    rw [szS]
    split
    · omega
    · exact Int.le_trans (szS_le (by omega)) (by omega)
theorem szSL_le {xs : List ByteArray} {l : Int} (h : 0 ≤ l) : szSL l xs ≤ l := by
  unfold szSL
  split
  · omega
  · exact Int.le_trans (szS_le (by omega)) (by omega)
theorem szSL_small {xs : List ByteArray} {l : Int} (h1 : l ≤ 1048576) (h : ¬ szSL l xs < 0) : xs.length ≤ 1048576 := by
  unfold szSL at h
  split at h
  · omega
  · omega
theorem szStringS_c (xs : List ByteArray) (l : Int) (h1 : 0 ≤ l) (h2 : l ≤ 1048576) (hx : strOk xs) : VC Tryz.prog 18 [rdS xs, .val (.int .i64 l)] (.val (.int .i64 (szSL l xs))) := by
  have hl := hx.1
  refine VC.intro hΘ Tryz.func18 rfl rfl Tryz.ntmps18 rfl rfl rfl fun B hB => ?_
  (conv => whnf)
  rw [List.length_map, wrap_i64 (by omega) (by omega)]
  refine brm_p (fun h => ?_) (fun h => ?_) <;> (conv => whnf)
  · exact vfin_int (by unfold szSL; rw [if_pos h])
  have hT : szSL l xs = szS (l - xs.length) xs := by unfold szSL; rw [if_neg h]
  rw [hT]
  refine vloop_intro hΘ hB (ι := Nat × Int) (fun x => ⟨[(0, rdS xs), (1, .val (.int .i64 x.2)), (5, .val (.int .i64 x.1))], []⟩)
    (fun x => x.1 ≤ xs.length ∧ 0 ≤ x.2 ∧ x.2 ≤ 1048576 ∧ szS x.2 (xs.drop x.1) = szS (l - xs.length) xs) (fun x => xs.length - x.1) (0, l - xs.length)
    ⟨⟨.inr rfl, .inr rfl, .inr rfl, trivial⟩, trivial⟩ ⟨by simp, by simp; omega, by simp; omega, rfl⟩ ?_
  rintro ⟨i, v⟩ ⟨k1, k2, k3, k4⟩
  simp only at k1 k2 k3 k4
  (conv => whnf)
  rw [List.length_map]
  refine brm_p (fun h => ?_) (fun h => ?_) <;> (conv => whnf)
  · have hi : i < xs.length := by have : (i : Int) < xs.length := h; omega
    obtain ⟨x, hg, hm, hd⟩ := drop_at (xs := xs) hi
    rw [hd, szS] at k4
    have hxl := hx.2 x hm
    refine vat_intro i _ rfl (strs_at hg) ?_
    (conv => whnf)
    have hw : IntKind.i64.wrap (v - (sb x).length) = v - (sb x).length := wrap_i64 (by omega) (by omega)
    rw [show IntKind.i64.wrap ((i, v).2 - ((sb x).length : Int)) = v - (sb x).length from hw]
    refine brm_p (fun h' => ?_) (fun h' => ?_) <;> (conv => whnf)
    · rw [if_pos h'] at k4
      exact vfin_int k4
    · rw [if_neg h'] at k4
      exact ⟨(i + 1, v - (sb x).length), ⟨⟨.inr rfl, .inr rfl, .inr (vint_eq (wrap_succ (by omega))), trivial⟩, trivial⟩, ⟨hi, by simp only; omega, by simp only; omega, k4⟩, by simp only; omega⟩
  · have : xs.drop i = [] := List.drop_eq_nil_of_le (by have : ¬ (i : Int) < xs.length := h; omega)
    rw [this] at k4
    exact vfin_int k4
theorem set_appG {α : Type} (z : α) {xs : List α} {i : Nat} {x : α} (h : xs[i]? = some x) : (xs.take i ++ List.replicate (xs.length - i) z).set i x = xs.take (i + 1) ++ List.replicate (xs.length - (i + 1)) z := by
  have hi := (List.getElem?_eq_some_iff.1 h).1
  have hb := (List.getElem?_eq_some_iff.1 h).2
  have e : xs.length - i = (xs.length - (i + 1)) + 1 := by omega
  rw [e, List.replicate_succ, List.take_succ_eq_append_getElem hi]
  have hlen : (xs.take i).length = i := by simp; omega
  rw [List.set_append_right _ _ (by omega), hlen, Nat.sub_self, List.set_cons_zero, hb]
  simp
theorem toStringS_c (xs : List ByteArray) (hl : xs.length ≤ 2097152) : VC Tryz.prog 20 [rdS xs] (.own 1 (xs.map strC)) := by
  refine VC.intro hΘ Tryz.func20 rfl rfl Tryz.ntmps20 rfl rfl rfl fun B hB => ?_
  (conv => whnf)
  refine vlenN_intro xs.length (by rw [List.length_map]) (by rw [List.length_map]) (Nat.le_trans (Nat.mul_le_mul_right _ hl) (by decide)) ?_
  (conv => whnf)
  refine vloop_intro hΘ hB (ι := Nat) (fun i => ⟨[(0, rdS xs), (3, .own 1 ((xs.take i ++ List.replicate (xs.length - i) (⟨⟨[]⟩⟩ : ByteArray)).map strC)), (4, .val (.int .i64 i))], []⟩)
    (fun i => i ≤ xs.length) (fun i => xs.length - i) 0 ⟨⟨.inr rfl, .inr (vown_eq ?_), .inr rfl, trivial⟩, trivial⟩ (Nat.zero_le _) ?_
  · rw [List.take_zero, List.nil_append, List.map_replicate]; rfl
  rintro i k1
  have hlen : ((xs.take i ++ List.replicate (xs.length - i) (⟨⟨[]⟩⟩ : ByteArray)).map strC).length = xs.length := by simp; omega
  (conv => whnf)
  rw [List.length_map]
  refine brm_p (fun h => ?_) (fun h => ?_) <;> (conv => whnf)
  · have hi : i < xs.length := by omega
    obtain ⟨x, hg, hm, hd⟩ := drop_at (xs := xs) hi
    refine vat_intro i _ rfl (strs_at hg) ?_
    (conv => whnf)
    refine vix_intro i rfl (by rw [hlen]; exact hi) ?_
    (conv => whnf)
    refine ⟨i + 1, ⟨⟨.inr rfl, .inr (vown_eq ?_), .inr (vint_eq (wrap_succ (by omega))), trivial⟩, trivial⟩, hi, by omega⟩
    rw [← set_appG (⟨⟨[]⟩⟩ : ByteArray) hg, List.map_set]; rfl
  · have : i = xs.length := by omega
    subst this
    refine vfin_own ?_
    simp
theorem eqStringS_c (xs : List ByteArray) (hl : xs.length ≤ 2097152) : VC Tryz.prog 22 [rdS xs, rdS xs] (.val (.bool true)) := by
  refine VC.intro hΘ Tryz.func22 rfl rfl Tryz.ntmps22 rfl rfl rfl fun B hB => ?_
  (conv => whnf)
  refine brm_intro (fun h => ?_) (fun h => ?_) <;> (conv => whnf)
  · exact absurd h (by simp)
  refine vloop_intro hΘ hB (ι := Nat) (fun i => ⟨[(0, rdS xs), (1, rdS xs), (5, .val (.int .i64 i))], []⟩)
    (fun i => i ≤ xs.length) (fun i => xs.length - i) 0 ⟨⟨.inr rfl, .inr rfl, .inr rfl, trivial⟩, trivial⟩ (Nat.zero_le _) ?_
  rintro i k1
  (conv => whnf)
  rw [List.length_map]
  refine brm_p (fun h => ?_) (fun h => ?_) <;> (conv => whnf)
  · have hi : i < xs.length := by omega
    obtain ⟨x, hg, hm, hd⟩ := drop_at (xs := xs) hi
    refine vdraw_intro hΘ hB mixed (by kernel_rfl) ?_
    (conv => whnf)
    refine vat_intro i _ rfl (strs_at hg) ?_
    (conv => whnf)
    refine vat_intro i _ rfl (strs_at hg) ?_
    (conv => whnf)
    refine brm_ne' (fun h2 => absurd rfl h2) (fun _ => ?_)
    (conv => whnf)
    exact ⟨i + 1, ⟨⟨.inr rfl, .inr rfl, .inr (vint_eq (wrap_succ (by omega))), trivial⟩, trivial⟩, hi, by omega⟩
  · exact vfin_bool rfl

set_option maxRecDepth 100000 in
theorem barred_law (xs : List ByteArray) (o : Obj) (hx : strOk xs) (ho : o.ok) : VC Tryz.prog 4 [rdS xs, o.rd] (.val (.bool true)) := by
  refine VC.intro hΘ Tryz.func4 rfl rfl Tryz.ntmps4 rfl rfl rfl fun B hB => ?_
  (conv => whnf)
  refine call_i (x := szSL 1048576 xs) rfl (szStringS_c xs 1048576 (by decide) (by decide) hx) (f1 (ar rfl rfl) (f1 (av rfl) f0)) fun z hz => ?_
  (conv => whnf)
  refine brm_p (fun h => ?_) (fun h => ?_) <;> (conv => whnf)
  · exact vfin_bool rfl
  have hz2 := szSL_le (xs := xs) (l := 1048576) (by decide)
  have hn := szSL_small (xs := xs) (l := 1048576) (by decide) (by rw [← hz]; exact h)
  rw [← hz] at hz2
  clear hz
  refine call_i (x := szO z o) rfl (szObject_c o z (by omega) hz2 ho) (f1 (fa (l1 (fv rfl) (l1 (fr rfl rfl) (l1 (fv rfl) (l1 (fr rfl rfl) (l1 (fv rfl) (l1 (fv rfl) (l1 (fv rfl) (l1 (fv rfl) l0))))))))) (f1 (av rfl) f0)) fun l hl => ?_
  (conv => whnf)
  refine brm_p (fun h' => ?_) (fun h' => ?_) <;> (conv => whnf)
  · exact vfin_bool rfl
  rw [hl] at h'
  obtain ⟨⟨s1, s2⟩, ⟨s3, s4⟩, _⟩ := szO_small hz2 h'
  clear hl h'
  have cS := barredSp_c xs o 1048576 hx ho s4 (by omega)
  have cI := barredIm_c xs o hx ho
  generalize barA xs o = b at cS cI
  have n1 : xs.length ≤ 2097152 := by omega
  have o1 : o.fs.length ≤ 2097152 := by omega
  have o2 : o.r.fs.length ≤ 2097152 := by omega
  refine vdrawG_intro hΘ hB mixed 5 rfl rfl ?_
  (conv => whnf)
  refine vcallA_intro0 rfl (toStringS_c xs n1) (f1 (ar rfl rfl) f0) ?_
  (conv => whnf)
  refine vcallA_intro0 rfl (toObject_c o o1 o2) (f1 (fa (l1 (fv rfl) (l1 (fr rfl rfl) (l1 (fv rfl) (l1 (fr rfl rfl) (l1 (fv rfl) (l1 (fv rfl) (l1 (fv rfl) (l1 (fv rfl) l0))))))))) f0) ?_
  (conv => whnf)
  refine vcallA_intro0 rfl cS (f1 (ah rfl rfl rfl) (f1 (fa (l1 (fv rfl) (l1 (fh rfl rfl rfl) (l1 (fv rfl) (l1 (fh rfl rfl rfl) (l1 (fv rfl) (l1 (fv rfl) (l1 (fv rfl) (l1 (fv rfl) l0))))))))) f0)) ?_
  (conv => whnf)
  refine ⟨rfl, ?_⟩
  (conv => whnf)
  refine vcallS_intro0 rfl (toStringS_c xs n1) (f1 (ar rfl rfl) f0) ?_
  (conv => whnf)
  refine vcallS_intro0 rfl (toObject_c o o1 o2) (f1 (fa (l1 (fv rfl) (l1 (fr rfl rfl) (l1 (fv rfl) (l1 (fr rfl rfl) (l1 (fv rfl) (l1 (fv rfl) (l1 (fv rfl) (l1 (fv rfl) l0))))))))) f0) ?_
  (conv => whnf)
  refine vcallS_intro0 rfl cI (f1 (ah rfl rfl rfl) (f1 (fa (l1 (fv rfl) (l1 (fh rfl rfl rfl) (l1 (fv rfl) (l1 (fh rfl rfl rfl) (l1 (fv rfl) (l1 (fv rfl) (l1 (fv rfl) (l1 (fv rfl) l0))))))))) f0)) ?_
  (conv => whnf)
  refine brm_ne (fun h => absurd rfl h) (fun _ => ?_)
  (conv => whnf)
  refine vcallS_intro0 rfl (toStringS_c xs n1) (f1 (ar rfl rfl) f0) ?_
  (conv => whnf)
  refine vcallS_intro0 rfl (eqStringS_c xs n1) (f1 (ah rfl rfl rfl) (f1 (ah rfl rfl rfl) f0)) ?_
  (conv => whnf)
  refine vdrawG_intro hΘ hB mixed 5 rfl rfl ?_
  (conv => whnf)
  refine vcallA_intro0 rfl (toObject_c o o1 o2) (f1 (fa (l1 (fv rfl) (l1 (fr rfl rfl) (l1 (fv rfl) (l1 (fr rfl rfl) (l1 (fv rfl) (l1 (fv rfl) (l1 (fv rfl) (l1 (fv rfl) l0))))))))) f0) ?_
  (conv => whnf)
  refine vcallA_intro0 rfl (eqObject_c o o1 o2) (f1 (fa (l1 (fv rfl) (l1 (fh rfl rfl rfl) (l1 (fv rfl) (l1 (fh rfl rfl rfl) (l1 (fv rfl) (l1 (fv rfl) (l1 (fv rfl) (l1 (fv rfl) l0))))))))) (f1 (fa (l1 (fv rfl) (l1 (fh rfl rfl rfl) (l1 (fv rfl) (l1 (fh rfl rfl rfl) (l1 (fv rfl) (l1 (fv rfl) (l1 (fv rfl) (l1 (fv rfl) l0))))))))) f0)) ?_
  (conv => whnf)
  refine ⟨rfl, ?_⟩
  (conv => whnf)
  exact vfin_bool rfl
end Go.Proofs.YtfdmlccbfbiloaaGreatDoor
namespace Go.Proofs.YtfdmlccbfbiloaaGreatDoor
open Go Go.Proofs.YtfdmlccbfbiloaaGreatDoor.Vs
variable [Gl]
set_option linter.unusedSectionVars false
/-- a row's list of texts -/
theorem str_of {n : Nat} {xs : List (List C)} (h : ∀ x ∈ xs, Ty Θ (n + 1) 9 x) : ∃ l : List ByteArray, xs = l.map strC ∧ ∀ p ∈ l, (sb p).length ≤ 140737488355328 := by
  induction xs with
  | nil => exact ⟨[], rfl, by simp⟩
  | cons x r ih =>
    obtain ⟨l, rfl, hl⟩ := ih (fun y hy => h y (by simp [hy]))
    obtain ⟨s1, rfl, h1⟩ := h x (by simp)
    refine ⟨s1 :: l, rfl, fun p hp => ?_⟩
    rcases List.mem_cons.1 hp with rfl | hp
    · exact Nat.le_trans h1 (by decide)
    · exact hl p hp
end Go.Proofs.YtfdmlccbfbiloaaGreatDoor
