import Derived.Test.YtfdmlccbfbiloaaGreatDoorSa
import Derived.Lib.ItoaNum
import Derived.Lib.IndexMore
import Derived.Lib.SlTrimSet
import Derived.Lib.Strings
import Derived.Lib.ParseIntB
import Derived.Lib.ParseIntBCases
import Derived.Lib.LaidTab
import Derived.Lib.ItoaLen
import Derived.Lib.Repeat
import Derived.Lib.AppendIntMem
import Derived.Test.YtfdmlccbfbiloaaGreatDoorTie
import Derived.Test.YtfdmlccbfbiloaaGreatDoorCards
import Derived.Stop.LaidErr
import Derived.MakeChecks
import Derived.Shelf.Vars
namespace Go.Proofs.YtfdmlccbfbiloaaGreatDoor
open Go Go.Proofs.YtfdmlccbfbiloaaGreatDoor.Vs
variable [Gl]
set_option linter.unusedSectionVars false

/-! #### dates (no program here) -/
structure Dt where
  y : Int
  mo : Int
  d : Int
  h : Int
  mi : Int
  s : Int
def Dt.v (x : Dt) : V := .agg [.val (.int .i64 x.y), .val (.int .i64 x.mo), .val (.int .i64 x.d), .val (.int .i64 x.h), .val (.int .i64 x.mi), .val (.int .i64 x.s)]
def Dt.z : Dt := ⟨0, 0, 0, 0, 0, 0⟩
def leap (y : Int) : Bool := (y.tmod 4 == 0 && !(y.tmod 100 == 0)) || y.tmod 400 == 0
def mdays (y m : Int) : Int := if m = 4 ∨ m = 6 ∨ m = 9 ∨ m = 11 then 30 else if m = 2 then (if leap y then 29 else 28) else 31
def Dt.ok (x : Dt) : Bool := ((((inR x.y 1970 9999 && inR x.mo 1 12) && inR x.d 1 (mdays x.y x.mo)) && inR x.h 0 23) && inR x.mi 0 59) && inR x.s 0 59
def ydays (y : Int) : Int := 365 * (y - 1970) + (y - 1).tdiv 4 - (y - 1).tdiv 100 + (y - 1).tdiv 400 - 477
/-- the days of the first k months -/
def msum (y : Int) : Nat → Int
  | 0 => 0
  | k + 1 => msum y k + mdays y (k + 1)
def Dt.days (x : Dt) : Int := ydays x.y + x.d - 1 + msum x.y (x.mo.toNat - 1)
def Dt.moment (x : Dt) : Int := if x.ok then x.days * 86400 + x.h * 3600 + x.mi * 60 + x.s else -1
theorem mdays_le (y m : Int) : 28 ≤ mdays y m ∧ mdays y m ≤ 31 := by unfold mdays; split; omega; split; split <;> omega; omega
theorem msum_le (y : Int) : ∀ k, 0 ≤ msum y k ∧ msum y k ≤ 31 * k
  | 0 => by simp [msum]
  | k + 1 => by have := msum_le y k; have := mdays_le y (k + 1); simp only [msum]; omega
theorem ydays_le {y : Int} (h1 : 1970 ≤ y) (h2 : y ≤ 9999) : 0 ≤ ydays y ∧ ydays y ≤ 4000000 := by
  unfold ydays
  rw [Int.tdiv_eq_ediv_of_nonneg (by omega), Int.tdiv_eq_ediv_of_nonneg (by omega), Int.tdiv_eq_ediv_of_nonneg (by omega)]
  omega
theorem ok_iff {x : Dt} : x.ok = true ↔ (1970 ≤ x.y ∧ x.y ≤ 9999) ∧ (1 ≤ x.mo ∧ x.mo ≤ 12) ∧ (1 ≤ x.d ∧ x.d ≤ mdays x.y x.mo) ∧ (0 ≤ x.h ∧ x.h ≤ 23) ∧ (0 ≤ x.mi ∧ x.mi ≤ 59) ∧ 0 ≤ x.s ∧ x.s ≤ 59 := by
  simp only [Dt.ok, inR, Bool.and_eq_true, decide_eq_true_eq, and_assoc]
theorem days_le {x : Dt} (h : x.ok = true) : 0 ≤ x.days ∧ x.days ≤ 5000000 := by
  obtain ⟨h1, h2, h3, _⟩ := ok_iff.1 h
  have := ydays_le h1.1 h1.2
  have := msum_le x.y (x.mo.toNat - 1)
  have := mdays_le x.y x.mo
  unfold Dt.days
  omega
/-- a digit -/
def dgt (n : Int) : UInt8 := UInt8.ofNat (48 + n.toNat)
def two (n : Int) : List UInt8 := [dgt (n / 10 % 10), dgt (n % 10)]
def wkT : List UInt8 := [83, 117, 110, 77, 111, 110, 84, 117, 101, 87, 101, 100, 84, 104, 117, 70, 114, 105, 83, 97, 116]
def moT : List UInt8 := [74, 97, 110, 70, 101, 98, 77, 97, 114, 65, 112, 114, 77, 97, 121, 74, 117, 110, 74, 117, 108, 65, 117, 103, 83, 101, 112, 79, 99, 116, 78, 111, 118, 68, 101, 99]
def at3 (t : List UInt8) (k : Nat) : List UInt8 := [t.getD (3 * k + 0) 0, t.getD (3 * k + 1) 0, t.getD (3 * k + 2) 0]
def mk29 (w0 w1 w2 d1 d2 m0 m1 m2 y1 y2 y3 y4 h1 h2 i1 i2 s1 s2 : UInt8) : List UInt8 := [w0, w1, w2, 44, 32, d1, d2, 32, m0, m1, m2, 32, y1, y2, y3, y4, 32, h1, h2, 58, i1, i2, 58, s1, s2, 32, 71, 77, 84]
def g3 (t : List UInt8) (k j : Nat) : UInt8 := t.getD (3 * k + j) 0
def Dt.wd (x : Dt) : Nat := ((x.days + 4) % 7).toNat
def Dt.show (x : Dt) : List UInt8 :=
  mk29 (g3 wkT x.wd 0) (g3 wkT x.wd 1) (g3 wkT x.wd 2) (dgt (x.d / 10 % 10)) (dgt (x.d % 10)) (g3 moT (x.mo.toNat - 1) 0) (g3 moT (x.mo.toNat - 1) 1) (g3 moT (x.mo.toNat - 1) 2)
    (dgt (x.y / 100 / 10 % 10)) (dgt (x.y / 100 % 10)) (dgt (x.y / 10 % 10)) (dgt (x.y % 10)) (dgt (x.h / 10 % 10)) (dgt (x.h % 10)) (dgt (x.mi / 10 % 10)) (dgt (x.mi % 10)) (dgt (x.s / 10 % 10)) (dgt (x.s % 10))
theorem show_len (x : Dt) : x.show.length = 29 := rfl

/-! #### digits -/
def isDg (b : UInt8) : Bool := isDigit b.toNat
def numL (l : List UInt8) : Nat := l.foldl (fun n b => n * 10 + (b.toNat - 48)) 0
def digits (l : List UInt8) : Option Int := if ((decide (1 ≤ l.length) && decide (l.length ≤ 15)) && l.all isDg) = true then some (numL l : Int) else none
theorem dgt_dg {n : Int} (h0 : 0 ≤ n) (h1 : n ≤ 9) : (dgt n).toNat = 48 + n.toNat := by
  unfold dgt; rw [UInt8.toNat_ofNat']; omega
theorem isDg_dgt {n : Int} (h0 : 0 ≤ n) (h1 : n ≤ 9) : isDg (dgt n) = true := by
  unfold isDg isDigit; rw [dgt_dg h0 h1]; simp; omega
theorem digits_two {n : Int} (h0 : 0 ≤ n) (h1 : n ≤ 99) : digits (two n) = some n := by
  have e1 := isDg_dgt (n := n / 10 % 10) (by omega) (by omega)
  have e2 := isDg_dgt (n := n % 10) (by omega) (by omega)
  have d1 := dgt_dg (n := n / 10 % 10) (by omega) (by omega)
  have d2 := dgt_dg (n := n % 10) (by omega) (by omega)
  unfold digits two
  rw [if_pos (by simp [e1, e2])]
  simp only [numL, List.foldl_cons, List.foldl_nil, d1, d2, Option.some.injEq]
  omega
theorem digits_four {n : Int} (h0 : 0 ≤ n) (h1 : n ≤ 9999) : digits (two (n / 100) ++ two n) = some n := by
  have e1 := isDg_dgt (n := n / 100 / 10 % 10) (by omega) (by omega)
  have e2 := isDg_dgt (n := n / 100 % 10) (by omega) (by omega)
  have e3 := isDg_dgt (n := n / 10 % 10) (by omega) (by omega)
  have e4 := isDg_dgt (n := n % 10) (by omega) (by omega)
  have d1 := dgt_dg (n := n / 100 / 10 % 10) (by omega) (by omega)
  have d2 := dgt_dg (n := n / 100 % 10) (by omega) (by omega)
  have d3 := dgt_dg (n := n / 10 % 10) (by omega) (by omega)
  have d4 := dgt_dg (n := n % 10) (by omega) (by omega)
  unfold digits two
  rw [if_pos (by simp [e1, e2, e3, e4])]
  simp only [numL, List.cons_append, List.nil_append, List.foldl_cons, List.foldl_nil, d1, d2, d3, d4, Option.some.injEq]
  omega
theorem numL_snoc (l : List UInt8) (b : UInt8) : numL (l ++ [b]) = numL l * 10 + (b.toNat - 48) := by simp [numL]
theorem numF_lt : ∀ (l : List UInt8) (acc k : Nat), acc < 10 ^ k → l.all isDg = true → l.foldl (fun n b => n * 10 + (b.toNat - 48)) acc < 10 ^ (k + l.length)
  | [], acc, k, h, _ => h
  | b :: r, acc, k, h, hl => by
    rw [List.all_cons, Bool.and_eq_true] at hl
    have h2 : isDg b = true := hl.1
    simp only [isDg, isDigit, Bool.and_eq_true, decide_eq_true_eq] at h2
    have := numF_lt r (acc * 10 + (b.toNat - 48)) (k + 1) (by rw [Nat.pow_succ]; omega) hl.2
    rw [List.foldl_cons, List.length_cons, show k + (r.length + 1) = k + 1 + r.length by omega]
    exact this
theorem numL_lt (l : List UInt8) (h : l.all isDg = true) : numL l < 10 ^ l.length := by
  have := numF_lt l 0 0 (by decide) h
  rwa [Nat.zero_add] at this

/-! #### what is read -/
def cutL (s : List UInt8) (f t : Nat) : List UInt8 := (s.drop f).take (t - f)
def monS (w : List UInt8) : Nat → Int
  | 0 => 0
  | k + 1 => if at3 moT k = w then (k + 1 : Int) else monS w k
/-- as the reference reads it -/
def parS (s : List UInt8) : Dt :=
  let n := fun p => (digits (cutL s p (p + 2))).getD 0
  ⟨100 * n 12 + n 14, monS (cutL s 8 11) 12, n 5, n 17, n 20, n 23⟩
/-- as the program reads it -/
def parI (s : List UInt8) : Dt :=
  let n := fun f t => (digits (cutL s f t)).getD (-1)
  ⟨n 12 16, (Lib.index moT (cutL s 8 11)).tdiv 3 + 1, n 5 7, n 17 19, n 20 22, n 23 25⟩
def Dt.shows (x : Dt) (s : List UInt8) : Bool := x.ok && x.show == s
theorem monS_at : ∀ k : Nat, k < 12 → monS (at3 moT k) 12 = (k : Int) + 1 := by decide +kernel
theorem index_at : ∀ k : Nat, k < 12 → Lib.index moT (at3 moT k) = 3 * (k : Int) := by decide +kernel
section
variable (w0 w1 w2 d1 d2 m0 m1 m2 y1 y2 y3 y4 h1 h2 i1 i2 s1 s2 : UInt8)
theorem cut_5_7 : cutL (mk29 w0 w1 w2 d1 d2 m0 m1 m2 y1 y2 y3 y4 h1 h2 i1 i2 s1 s2) 5 7 = [d1, d2] := rfl
theorem cut_8_11 : cutL (mk29 w0 w1 w2 d1 d2 m0 m1 m2 y1 y2 y3 y4 h1 h2 i1 i2 s1 s2) 8 11 = [m0, m1, m2] := rfl
theorem cut_12_14 : cutL (mk29 w0 w1 w2 d1 d2 m0 m1 m2 y1 y2 y3 y4 h1 h2 i1 i2 s1 s2) 12 14 = [y1, y2] := rfl
theorem cut_14_16 : cutL (mk29 w0 w1 w2 d1 d2 m0 m1 m2 y1 y2 y3 y4 h1 h2 i1 i2 s1 s2) 14 16 = [y3, y4] := rfl
theorem cut_12_16 : cutL (mk29 w0 w1 w2 d1 d2 m0 m1 m2 y1 y2 y3 y4 h1 h2 i1 i2 s1 s2) 12 16 = [y1, y2, y3, y4] := rfl
theorem cut_17_19 : cutL (mk29 w0 w1 w2 d1 d2 m0 m1 m2 y1 y2 y3 y4 h1 h2 i1 i2 s1 s2) 17 19 = [h1, h2] := rfl
theorem cut_20_22 : cutL (mk29 w0 w1 w2 d1 d2 m0 m1 m2 y1 y2 y3 y4 h1 h2 i1 i2 s1 s2) 20 22 = [i1, i2] := rfl
theorem cut_23_25 : cutL (mk29 w0 w1 w2 d1 d2 m0 m1 m2 y1 y2 y3 y4 h1 h2 i1 i2 s1 s2) 23 25 = [s1, s2] := rfl
end
theorem parS_show {x : Dt} (h : x.ok = true) : parS x.show = x := by
  obtain ⟨⟨a1, a2⟩, ⟨b1, b2⟩, ⟨c1, c2⟩, ⟨d1, d2⟩, ⟨e1, e2⟩, f1, f2⟩ := ok_iff.1 h
  have := mdays_le x.y x.mo
  have q : ∀ k, x.mo.toNat - 1 = k → k < 12 → monS (at3 moT (x.mo.toNat - 1)) 12 = x.mo := by
    intro k hk hlt
    rw [monS_at _ (by omega)]
    omega
  have hm := q _ rfl (by omega)
  have g1 : digits (cutL x.show 12 14) = some (x.y / 100) := by unfold Dt.show; rw [cut_12_14]; exact digits_two (by omega) (by omega)
  have g2 : digits (cutL x.show 14 16) = some (x.y % 100) := by
    unfold Dt.show; rw [cut_14_16]
    have : [dgt (x.y / 10 % 10), dgt (x.y % 10)] = two (x.y % 100) := by
      unfold two
      rw [show x.y % 100 / 10 % 10 = x.y / 10 % 10 by omega, show x.y % 100 % 10 = x.y % 10 by omega]
    rw [this]; exact digits_two (by omega) (by omega)
  have g3 : digits (cutL x.show 5 7) = some x.d := by unfold Dt.show; rw [cut_5_7]; exact digits_two (by omega) (by omega)
  have g4 : digits (cutL x.show 17 19) = some x.h := by unfold Dt.show; rw [cut_17_19]; exact digits_two (by omega) (by omega)
  have g5 : digits (cutL x.show 20 22) = some x.mi := by unfold Dt.show; rw [cut_20_22]; exact digits_two (by omega) (by omega)
  have g6 : digits (cutL x.show 23 25) = some x.s := by unfold Dt.show; rw [cut_23_25]; exact digits_two (by omega) (by omega)
  have g7 : cutL x.show 8 11 = at3 moT (x.mo.toNat - 1) := by unfold Dt.show; rw [cut_8_11]; rfl
  obtain ⟨y, mo, d, hh, mi, s⟩ := x
  generalize hS : Dt.show _ = S at *
  simp only [parS, g1, g2, g3, g4, g5, g6, g7, hm, Option.getD_some]
  congr 1
  simp only at a1 a2
  omega
theorem parI_show {x : Dt} (h : x.ok = true) : parI x.show = x := by
  obtain ⟨⟨a1, a2⟩, ⟨b1, b2⟩, ⟨c1, c2⟩, ⟨d1, d2⟩, ⟨e1, e2⟩, f1, f2⟩ := ok_iff.1 h
  have := mdays_le x.y x.mo
  have g1 : digits (cutL x.show 12 16) = some x.y := by unfold Dt.show; rw [cut_12_16]; exact digits_four (by omega) (by omega)
  have g3 : digits (cutL x.show 5 7) = some x.d := by unfold Dt.show; rw [cut_5_7]; exact digits_two (by omega) (by omega)
  have g4 : digits (cutL x.show 17 19) = some x.h := by unfold Dt.show; rw [cut_17_19]; exact digits_two (by omega) (by omega)
  have g5 : digits (cutL x.show 20 22) = some x.mi := by unfold Dt.show; rw [cut_20_22]; exact digits_two (by omega) (by omega)
  have g6 : digits (cutL x.show 23 25) = some x.s := by unfold Dt.show; rw [cut_23_25]; exact digits_two (by omega) (by omega)
  have g7 : cutL x.show 8 11 = at3 moT (x.mo.toNat - 1) := by unfold Dt.show; rw [cut_8_11]; rfl
  have hm : (Lib.index moT (at3 moT (x.mo.toNat - 1))).tdiv 3 + 1 = x.mo := by
    rw [index_at _ (by omega)]
    rw [Int.tdiv_eq_ediv_of_nonneg (by omega)]
    omega
  obtain ⟨y, mo, d, hh, mi, s⟩ := x
  generalize hS : Dt.show _ = S at *
  simp only [parI, g1, g3, g4, g5, g6, g7, hm, Option.getD_some]
def readOk (s : List UInt8) : Bool := decide (s.length = 29) && (parS s).shows s
def readD (s : List UInt8) : Dt := if readOk s then parS s else Dt.z
def readV (s : List UInt8) : V := .tup [(readD s).v, .val (.bool (readOk s))]
theorem shows_parI (s : List UInt8) : (parI s).shows s = (parS s).shows s := by
  rw [Bool.eq_iff_iff]
  unfold Dt.shows
  simp only [Bool.and_eq_true, beq_iff_eq]
  constructor
  · rintro ⟨h1, h2⟩
    have := parS_show h1
    rw [h2] at this
    rw [this]; exact ⟨h1, h2⟩
  · rintro ⟨h1, h2⟩
    have := parI_show h1
    rw [h2] at this
    rw [this]; exact ⟨h1, h2⟩
theorem parI_eq {s : List UInt8} (h : (parI s).shows s = true) : parI s = parS s := by
  unfold Dt.shows at h
  simp only [Bool.and_eq_true, beq_iff_eq] at h
  have := parS_show h.1
  rw [h.2] at this
  exact this.symm
/-- the moment of a field -/
def dateB (s : List UInt8) : Int := if readOk s then (readD s).moment else -1
end Go.Proofs.YtfdmlccbfbiloaaGreatDoor
namespace Go.Proofs.YtfdmlccbfbiloaaGreatDoor
open Go Go.Proofs.YtfdmlccbfbiloaaGreatDoor.Vs
variable [Gl]
set_option linter.unusedSectionVars false

/-! #### control (no program here) -/
structure Ctl where
  ma : Int
  sh : Int
  st : Int
  ns : Bool
  nc : Bool
  pr : Bool
  mu : Bool
def Ctl.z : Ctl := ⟨-1, -1, -1, false, false, false, false⟩
def Ctl.cs (c : Ctl) : List V := [.val (.int .i64 c.ma), .val (.int .i64 c.sh), .val (.int .i64 c.st), .val (.bool c.ns), .val (.bool c.nc), .val (.bool c.pr), .val (.bool c.mu)]
def Ctl.v (c : Ctl) : V := .agg c.cs
def secM : Int := 1000000000
def maW : List UInt8 := [109, 97, 120, 45, 97, 103, 101]
def shW : List UInt8 := [115, 45, 109, 97, 120, 97, 103, 101]
def stW : List UInt8 := [109, 97, 120, 45, 115, 116, 97, 108, 101]
def nsW : List UInt8 := [110, 111, 45, 115, 116, 111, 114, 101]
def ncW : List UInt8 := [110, 111, 45, 99, 97, 99, 104, 101]
def prW : List UInt8 := [112, 114, 105, 118, 97, 116, 101]
def muW : List UInt8 := [109, 117, 115, 116, 45, 114, 101, 118, 97, 108, 105, 100, 97, 116, 101]
/-- the number of a directive with a name (the sign behind it included) -/
def told (n x : List UInt8) : Option Int := if (decide (n.length < x.length) && x.take n.length == n) = true then (digits (x.drop n.length)).map (fun v => min secM v) else none
def tell (a : Int) (o : Option Int) : Int := if a < 0 then o.getD a else a
def ctlStep (c : Ctl) (x : List UInt8) : Ctl :=
  ⟨tell c.ma (told (maW ++ [61]) x), tell c.sh (told (shW ++ [61]) x), tell (tell c.st (told (stW ++ [61]) x)) (if x = stW then some secM else none), c.ns || x == nsW, c.nc || x == ncW, c.pr || x == prW, c.mu || x == muW⟩
def ctlL (c : Ctl) (l : List ByteArray) : Ctl := l.foldl (fun c x => ctlStep c (lower (sb x))) c
def ctl (s : List UInt8) : Ctl := ctlL Ctl.z (itemsB s)
theorem digits_le {l : List UInt8} {v : Int} (h : digits l = some v) : 0 ≤ v ∧ v < 1000000000000000 := by
  unfold digits at h
  split at h
  · rename_i hh
    simp only [Bool.and_eq_true, decide_eq_true_eq] at hh
    injection h with h
    have h1 := numL_lt l hh.2
    have h2 : (10 : Nat) ^ l.length ≤ 10 ^ 15 := Nat.pow_le_pow_right (by decide) hh.1.2
    omega
  · cases h
theorem told_le {n x : List UInt8} {v : Int} (h : told n x = some v) : 0 ≤ v ∧ v ≤ secM := by
  unfold told at h
  split at h
  · cases hd : digits (x.drop n.length) with
    | none => rw [hd] at h; cases h
    | some u =>
      rw [hd] at h
      simp only [Option.map_some, Option.some.injEq] at h
      have := digits_le hd
      unfold secM at *
      omega
  · cases h
def Ctl.ok (c : Ctl) : Prop := (-1 ≤ c.ma ∧ c.ma ≤ secM) ∧ (-1 ≤ c.sh ∧ c.sh ≤ secM) ∧ -1 ≤ c.st ∧ c.st ≤ secM
theorem tell_ok {a : Int} {o : Option Int} (h : -1 ≤ a ∧ a ≤ secM) (ho : ∀ v, o = some v → 0 ≤ v ∧ v ≤ secM) : -1 ≤ tell a o ∧ tell a o ≤ secM := by
  unfold tell
  split
  · cases o with
    | none => exact h
    | some v => have := ho v rfl; simp only [Option.getD_some]; omega
  · exact h
theorem ctlStep_ok {c : Ctl} (h : c.ok) (x : List UInt8) : (ctlStep c x).ok := by
  refine ⟨tell_ok h.1 fun v => told_le, tell_ok h.2.1 fun v => told_le, tell_ok (tell_ok h.2.2 fun v => told_le) fun v hv => ?_⟩
  split at hv
  · injection hv with hv; unfold secM at *; omega
  · cases hv
theorem ctlL_ok : ∀ {l : List ByteArray} {c : Ctl}, c.ok → (ctlL c l).ok
  | [], _, h => h
  | _ :: r, _, h => ctlL_ok (l := r) (ctlStep_ok h _)
theorem ctl_ok (s : List UInt8) : (ctl s).ok := ctlL_ok ⟨by decide, by decide, by decide⟩

/-! #### tags -/
structure Tg where
  w : Bool
  t : List UInt8
def tgChar (b : UInt8) : Bool := (decide (33 ≤ b.toNat) && decide (b.toNat ≤ 126)) && !(b == 34)
def Tg.ok (x : Tg) : Bool := decide (x.t.length ≤ 40) && x.t.all tgChar
def Tg.shw (x : Tg) : List UInt8 := (if x.w then [87, 47] else []) ++ [34] ++ x.t ++ [34]
def tgK (s : List UInt8) : Bool × List UInt8 := if (decide (2 < s.length) && s.take 2 == [87, 47]) = true then (true, s.drop 2) else (false, s)
/-- as the reference reads it -/
def tgS (s : List UInt8) : Tg := ⟨(tgK s).1, ((tgK s).2.drop 1).take ((tgK s).2.length - 1 - 1)⟩
/-- as the program reads it -/
def tgI (s : List UInt8) : Tg := if Lib.hasPrefix s [87, 47] then ⟨true, Lib.trimS (s.drop 2) [34]⟩ else ⟨false, Lib.trimS s [34]⟩
def Tg.shows (x : Tg) (s : List UInt8) : Bool := x.ok && x.shw == s
theorem tg_no34 {x : Tg} (h : x.ok = true) : ∀ b ∈ x.t, (b == 34) = false := by
  intro b hb
  simp only [Tg.ok, Bool.and_eq_true, List.all_eq_true] at h
  have := h.2 b hb
  simp only [tgChar, Bool.and_eq_true, Bool.not_eq_true'] at this
  exact this.2
theorem trim_q {t : List UInt8} (h : ∀ b ∈ t, (b == 34) = false) : Lib.trimS (34 :: (t ++ [34])) [34] = t := by
  have one : ∀ b : UInt8, ([34] : List UInt8).contains b = (b == 34) := fun b => Lib.contains_one 34 b
  have dw : ∀ l : List UInt8, (∀ b ∈ l, (b == 34) = false) → l.dropWhile ((([34] : List UInt8)).contains ·) = l := by
    intro l hl
    cases l with
    | nil => rfl
    | cons b r => rw [List.dropWhile_cons, one, hl b (by simp)]; rfl
  unfold Lib.trimS Lib.trimRightS Lib.trimLeftS
  have e1 : (34 :: (t ++ [34])).reverse.dropWhile ((([34] : List UInt8)).contains ·) = (if t = [] then [] else t.reverse ++ [34]) := by
    rw [List.reverse_cons, List.reverse_append]
    cases ht : t.reverse with
    | nil =>
      have : t = [] := by simpa using ht
      subst this
      rfl
    | cons b r =>
      have hne : ¬ t = [] := by intro e; subst e; cases ht
      rw [if_neg hne]
      have hb : (b == 34) = false := h b (by have : b ∈ t.reverse := by rw [ht]; simp
                                             simpa using this)
      show (34 :: (b :: r ++ [34])).dropWhile _ = _
      rw [List.dropWhile_cons, one]
      simp only [beq_self_eq_true, if_true]
      show (b :: (r ++ [34])).dropWhile _ = _
      rw [List.dropWhile_cons, one, hb]
      rfl
  rw [e1]
  split
  · rename_i ht
    subst ht; rfl
  · rw [List.reverse_append, List.reverse_reverse]
    show (34 :: t).dropWhile _ = _
    rw [List.dropWhile_cons, one]
    simp only [beq_self_eq_true, if_true]
    exact dw t h
theorem tgS_shw {x : Tg} (h : x.ok = true) : tgS x.shw = x := by
  obtain ⟨w, t⟩ := x
  cases w with
  | true =>
    have : tgK (Tg.shw ⟨true, t⟩) = (true, 34 :: (t ++ [34])) := by
      unfold tgK Tg.shw
      simp
    unfold tgS
    rw [this]
    simp
  | false =>
    have : tgK (Tg.shw ⟨false, t⟩) = (false, 34 :: (t ++ [34])) := by
      unfold tgK Tg.shw
      cases t <;> simp
    unfold tgS
    rw [this]
    simp
theorem tgI_shw {x : Tg} (h : x.ok = true) : tgI x.shw = x := by
  have hq := trim_q (tg_no34 h)
  obtain ⟨w, t⟩ := x
  cases w with
  | true =>
    have : Lib.hasPrefix (Tg.shw ⟨true, t⟩) [87, 47] = true := by simp [Tg.shw, Lib.hasPrefix]
    unfold tgI
    rw [if_pos this]
    have e : (Tg.shw ⟨true, t⟩).drop 2 = 34 :: (t ++ [34]) := by simp [Tg.shw]
    rw [e, hq]
  | false =>
    have : ¬ Lib.hasPrefix (Tg.shw ⟨false, t⟩) [87, 47] = true := by simp [Tg.shw, Lib.hasPrefix]
    unfold tgI
    rw [if_neg this]
    have e : Tg.shw ⟨false, t⟩ = 34 :: (t ++ [34]) := by simp [Tg.shw]
    rw [e, hq]
def tgOk (s : List UInt8) : Bool := (tgS s).shows s
theorem tgI_shows (s : List UInt8) : (tgI s).shows s = tgOk s := by
  unfold tgOk
  rw [Bool.eq_iff_iff]
  unfold Tg.shows
  simp only [Bool.and_eq_true, beq_iff_eq]
  constructor
  · rintro ⟨h1, h2⟩
    have := tgS_shw h1
    rw [h2] at this
    rw [this]; exact ⟨h1, h2⟩
  · rintro ⟨h1, h2⟩
    have := tgI_shw h1
    rw [h2] at this
    rw [this]; exact ⟨h1, h2⟩
theorem tgI_eq {s : List UInt8} (h : tgOk s = true) : tgI s = tgS s := by
  have h' := (tgI_shows s).trans h
  unfold Tg.shows at h'
  simp only [Bool.and_eq_true, beq_iff_eq] at h'
  have := tgS_shw h'.1
  rw [h'.2] at this
  exact this.symm
def tgV (s : List UInt8) : V := if tgOk s then .tup [.agg [.val (.bool (tgS s).w), .val (.string (bs (tgS s).t))], .val (.bool true)] else .tup [.agg [.val (.bool false), .val (.string ⟨⟨[]⟩⟩)], .val (.bool false)]
end Go.Proofs.YtfdmlccbfbiloaaGreatDoor
namespace Go.Proofs.YtfdmlccbfbiloaaGreatDoor
open Go Go.Proofs.YtfdmlccbfbiloaaGreatDoor.Vs
variable [Gl]
set_option linter.unusedSectionVars false

/-! #### digits, both -/
def digV (l : List UInt8) : V := .tup [.val (.int .i64 ((digits l).getD 0)), .val (.bool (digits l).isSome)]
theorem digV_no {l : List UInt8} (h : digits l = none) : digV l = .tup [.val (.int .i64 0), .val (.bool false)] := by unfold digV; rw [h]; rfl
theorem digV_yes {l : List UInt8} {v : Int} (h : digits l = some v) : digV l = .tup [.val (.int .i64 v), .val (.bool true)] := by unfold digV; rw [h]; rfl
theorem take_snoc {l : List UInt8} {i : Nat} {b : UInt8} (h : l[i]? = some b) : l.take (i + 1) = l.take i ++ [b] := by
  rw [List.take_add_one, h]; rfl
theorem isDg_iff (b : UInt8) : isDg b = true ↔ 48 ≤ b.toNat ∧ b.toNat ≤ 57 := by
  unfold isDg isDigit; simp only [Bool.and_eq_true, decide_eq_true_eq]; omega
theorem digitsS_c (s : ByteArray) (hs : (sb s).length ≤ 140737488355328) : VC Tryz.prog 76 [.val (.string s)] (digV (sb s)) := by
  refine VC.intro hΘ Tryz.func76 rfl rfl Tryz.ntmps76 rfl rfl rfl fun B hB => ?_
  (conv => whnf)
  refine brm_p (fun h1 => ?_) (fun h1 => ?_) <;> (conv => whnf)
  · rw [digV_no (by unfold digits; rw [if_neg]; simp only [Bool.and_eq_true, decide_eq_true_eq]; omega)]
    exact vfin_tup2 rfl rfl
  refine brm_p (fun h2 => ?_) (fun h2 => ?_) <;> (conv => whnf)
  · rw [digV_no (by unfold digits; rw [if_neg]; simp only [Bool.and_eq_true, decide_eq_true_eq]; omega)]
    exact vfin_tup2 rfl rfl
  refine vloop_intro hΘ hB (ι := Nat) (fun i => ⟨[(0, .val (.string s)), (4, .val (.int .i64 (numL ((sb s).take i) : Nat))), (5, .val (.int .i64 i))], []⟩) (fun i => i ≤ (sb s).length ∧ ((sb s).take i).all isDg = true) (fun i => (sb s).length - i) 0
    ⟨⟨.inr rfl, .inr rfl, .inr rfl, trivial⟩, trivial⟩ ⟨by omega, rfl⟩ ?_
  rintro i ⟨k1, k2⟩
  (conv => whnf)
  refine brm_p (fun h => ?_) (fun h => ?_) <;> (conv => whnf)
  · obtain ⟨b, hg, hm, hd⟩ := drop_at (xs := sb s) (i := i) (by omega)
    have hb := byteAt_get hg
    have no : ¬ isDg b = true → digits (sb s) = none := by
      intro hn
      unfold digits
      rw [if_neg]
      simp only [Bool.and_eq_true, List.all_eq_true]
      exact fun h => hn (h.2 b hm)
    refine vix_intro i rfl (by omega) ?_
    (conv => whnf)
    rw [hb]
    refine brm_p (fun h1 => ?_) (fun h1 => ?_) <;> (conv => whnf)
    · rw [digV_no (no (by rw [isDg_iff]; omega))]
      exact vfin_tup2 rfl rfl
    refine vix_intro i rfl (by omega) ?_
    (conv => whnf)
    rw [hb]
    refine brm_p (fun h2 => ?_) (fun h2 => ?_) <;> (conv => whnf)
    · rw [digV_no (no (by rw [isDg_iff]; omega))]
      exact vfin_tup2 rfl rfl
    have hdg : isDg b = true := by rw [isDg_iff]; omega
    refine vix_intro i rfl (by omega) ?_
    (conv => whnf)
    rw [hb]
    have hlt := numL_lt _ k2
    have hl2 : ((sb s).take i).length ≤ 14 := by rw [List.length_take]; omega
    have hp : (10 : Nat) ^ ((sb s).take i).length ≤ 10 ^ 14 := Nat.pow_le_pow_right (by decide) hl2
    refine ⟨i + 1, ⟨⟨.inr rfl, .inr (vint_eq ?_), .inr (vint_eq (wrap_succ (by omega))), trivial⟩, trivial⟩, ⟨by omega, ?_⟩, by omega⟩
    · rw [take_snoc hg, numL_snoc]
      have : IntKind.u8.wrap ((b.toNat : Int) - 48) = ((b.toNat - 48 : Nat) : Int) := by
        have := b.toNat_lt
        have e : ((b.toNat : Int) - 48) % 2 ^ 8 = ((b.toNat - 48 : Nat) : Int) := by omega
        simp only [IntKind.wrap, IntKind.bits, IntKind.signed, Bool.false_and, Bool.false_eq_true, if_false]
        exact e
      simp only [this]
      simp (disch := omega) only [wrap_i64]
      omega
    · rw [take_snoc hg, List.all_append, k2]
      simpa using hdg
  · have : (sb s).take i = sb s := List.take_of_length_le (by omega)
    rw [this] at k2 ⊢
    rw [digV_yes (v := (numL (sb s) : Nat)) (by unfold digits; rw [if_pos]; simp only [Bool.and_eq_true, decide_eq_true_eq]; exact ⟨⟨by omega, by omega⟩, k2⟩)]
    exact vfin_tup2 rfl rfl

theorem isDigitP_c (b : UInt8) : VC Tryz.prog 121 [.val (.int .u8 b.toNat)] (.val (.bool (isDg b))) := isDigit_c b.toNat
theorem parseUM (M : Nat) (hM : 1000000000000000 ≤ M) : ∀ (l : List UInt8) (acc k : Nat), k + l.length ≤ 15 → acc < 10 ^ k → l.all isDg = true → Lib.parseUintM M acc l = .ok (l.foldl (fun n b => n * 10 + (b.toNat - 48)) acc)
  | [], acc, k, _, _, _ => rfl
  | b :: r, acc, k, h1, h2, h3 => by
    rw [List.all_cons, Bool.and_eq_true] at h3
    have hb := (isDg_iff b).1 h3.1
    have hk : k + 1 ≤ 15 := by simp at h1; omega
    have hp : (10 : Nat) ^ (k + 1) ≤ 10 ^ 15 := Nat.pow_le_pow_right (by decide) hk
    have hs : (10 : Nat) ^ (k + 1) = 10 ^ k * 10 := Nat.pow_succ ..
    rw [Lib.parseUintM, if_pos (by omega), if_neg (by omega), if_neg (by omega)]
    rw [List.foldl_cons]
    exact parseUM M hM r _ (k + 1) (by simp at h1; omega) (by omega) h3.2
theorem parseInt_of {l : List UInt8} (h1 : 1 ≤ l.length) (h2 : l.length ≤ 15) (h3 : l.all isDg = true) : Lib.parseIntB 64 l = .ok (numL l : Nat) := by
  cases l with
  | nil => simp at h1
  | cons c r =>
    have hc := (isDg_iff c).1 (by rw [List.all_cons, Bool.and_eq_true] at h3; exact h3.1)
    have hu : Lib.parseUintB 64 (c :: r) = .ok (numL (c :: r)) := by
      rw [Lib.parseUintB, if_neg (by simp)]
      exact parseUM _ (by decide) _ 0 0 (by omega) (by decide) h3
    have hn := numL_lt _ h3
    have hp : (10 : Nat) ^ (c :: r).length ≤ 10 ^ 15 := Nat.pow_le_pow_right (by decide) h2
    rw [Lib.parseIntB_plain 64 c r (by omega) (by omega), hu]
    unfold Lib.signlessC
    simp only [show (2 : Nat) ^ (64 - 1) = 9223372036854775808 from rfl]
    rw [if_neg (by omega)]
theorem below_bytes {w w' : World} {k : Nat} (h : w' = w ∨ ∃ t, w' = Lib.bytesWorld w k t) : RowKit.Below w.heap.size w w' := by
  rcases h with rfl | ⟨t, rfl⟩
  · exact RowKit.Below.refl _ _
  · exact Lib.bytesWorld_below _ _ _
theorem parseInt_c (s : ByteArray) (h1 : 1 ≤ (sb s).length) (h2 : (sb s).length ≤ 15) (h3 : (sb s).all isDg = true) :
    VC Tryz.prog 122 [.val (.string s), .val (.int .i64 10), .val (.int .i64 64)] (.tup [.val (.int .i64 (numL (sb s) : Nat)), .val .nilIface]) :=
  VC.of_tupG (xs := [.string s, .int .i64 10, .int .i64 64]) (ys := [.int .i64 (numL (sb s) : Nat), .nilIface]) Tryz.func122 rfl rfl rfl fun _ w _ =>
    (Tryz.strconv_ParseInt_10_at64_ok s (by rw [Lib.size_eq]; show (sb s).length ≤ _; omega) (numL (sb s) : Nat) (parseInt_of h1 h2 h3) w).mono fun _ _ ⟨h1, h2⟩ => ⟨h1, below_bytes h2⟩
theorem digitsI_c (s : ByteArray) (hs : (sb s).length ≤ 140737488355328) : VC Tryz.prog 83 [.val (.string s)] (digV (sb s)) := by
  refine VC.intro hΘ Tryz.func83 rfl rfl Tryz.ntmps83 rfl rfl rfl fun B hB => ?_
  (conv => whnf)
  refine brm_p (fun h1 => ?_) (fun h1 => ?_) <;> (conv => whnf)
  · rw [digV_no (by unfold digits; rw [if_neg]; simp only [Bool.and_eq_true, decide_eq_true_eq]; omega)]
    exact vfin_tup2 rfl rfl
  refine brm_p (fun h2 => ?_) (fun h2 => ?_) <;> (conv => whnf)
  · rw [digV_no (by unfold digits; rw [if_neg]; simp only [Bool.and_eq_true, decide_eq_true_eq]; omega)]
    exact vfin_tup2 rfl rfl
  refine call_bb rfl (all_c 121 isDg isDigitP_c s hs) (f1 (av rfl) (f1 (av rfl) f0)) (fun h3 => ?_) (fun h3 => ?_) <;> (conv => whnf)
  rotate_left
  · rw [digV_no (by unfold digits; rw [if_neg]; simp only [Bool.and_eq_true]; rw [h3]; simp)]
    exact vfin_tup2 rfl rfl
  refine vcallS_intro0 rfl (parseInt_c s (by omega) (by omega) h3) (f1 (av rfl) (f1 (av rfl) (f1 (av rfl) f0))) ?_
  (conv => whnf)
  rw [digV_yes (v := (numL (sb s) : Nat)) (by unfold digits; rw [if_pos]; simp only [Bool.and_eq_true, decide_eq_true_eq]; exact ⟨⟨by omega, by omega⟩, h3⟩)]
  exact vfin_tup2 rfl rfl
end Go.Proofs.YtfdmlccbfbiloaaGreatDoor
namespace Go.Proofs.YtfdmlccbfbiloaaGreatDoor
open Go Go.Proofs.YtfdmlccbfbiloaaGreatDoor.Vs
variable [Gl]
set_option linter.unusedSectionVars false

/-! #### tags, both -/
def tagAgg (w : Bool) (t : ByteArray) : V := .agg [.val (.bool w), .val (.string t)]
theorem tagOkS_c (w : Bool) (t : ByteArray) : VC Tryz.prog 166 [tagAgg w t] (.val (.bool (Tg.ok ⟨w, sb t⟩))) := by
  refine VC.intro hΘ Tryz.func166 rfl rfl Tryz.ntmps166 rfl rfl rfl fun B hB => ?_
  (conv => whnf)
  refine brm_p (fun h3 => ?_) (fun h3 => ?_) <;> (conv => whnf)
  · exact vfin_bool (by
      have e : decide ((sb t).length ≤ 40) = false := by simp only [decide_eq_false_iff_not]; omega
      unfold Tg.ok; rw [e]; rfl)
  have e3 : decide ((sb t).length ≤ 40) = true := by simp only [decide_eq_true_eq]; omega
  have hT : Tg.ok ⟨w, sb t⟩ = (sb t).all tgChar := by unfold Tg.ok; rw [e3]; rfl
  rw [hT]
  refine vloop_intro hΘ hB (ι := Nat) (fun i => ⟨[(1, .ptr 1 0), (3, .val (.int .i64 i))], [(1, [.val (.bool w), .val (.string t)])]⟩) (fun i => i ≤ (sb t).length ∧ ((sb t).drop i).all tgChar = (sb t).all tgChar) (fun i => (sb t).length - i) 0
    ⟨⟨.inr rfl, .inr rfl, trivial⟩, ⟨⟨.inr rfl, .inr rfl, trivial⟩, trivial⟩⟩ ⟨by omega, rfl⟩ ?_
  rintro i ⟨k1, k2⟩
  (conv => whnf)
  refine brm_p (fun h => ?_) (fun h => ?_) <;> (conv => whnf)
  · obtain ⟨b, hg, _, hd⟩ := drop_at (xs := sb t) (i := i) (by omega)
    rw [hd, List.all_cons] at k2
    have hb := byteAt_get hg
    have no : tgChar b = false → Bool.false = (sb t).all tgChar := by intro e; rw [e, Bool.false_and] at k2; exact k2
    refine vix_intro i rfl (by omega) ?_
    (conv => whnf)
    rw [hb]
    refine brm_p (fun h1 => ?_) (fun h1 => ?_) <;> (conv => whnf)
    · exact vfin_bool (no (by simp [tgChar]; omega))
    refine vix_intro i rfl (by omega) ?_
    (conv => whnf)
    rw [hb]
    refine brm_p (fun h2 => ?_) (fun h2 => ?_) <;> (conv => whnf)
    · exact vfin_bool (no (by simp [tgChar]; omega))
    refine vix_intro i rfl (by omega) ?_
    (conv => whnf)
    rw [hb]
    refine brm_eq (fun h2 => ?_) (fun h2 => ?_) <;> (conv => whnf)
    · exact vfin_bool (no (by
        have : b = 34 := by apply UInt8.toNat_inj.1; show b.toNat = 34; omega
        subst this; rfl))
    · have : tgChar b = true := by
        have hne : ¬ b = 34 := by rintro rfl; exact h2 rfl
        simp [tgChar, hne]; omega
      rw [this, Bool.true_and] at k2
      exact ⟨i + 1, ⟨⟨.inr rfl, .inr (vint_eq (wrap_succ (by omega))), trivial⟩, ⟨⟨.inr rfl, .inr rfl, trivial⟩, trivial⟩⟩, ⟨by omega, k2⟩, by omega⟩
  · refine vfin_bool ?_
    have : (sb t).drop i = [] := List.drop_eq_nil_of_le (by omega)
    rw [this] at k2
    rw [← k2]; rfl
theorem tagFn_c (b : UInt8) : VC Tryz.prog 180 [.val (.int .u8 b.toNat)] (.val (.bool (tgChar b))) := by
  refine VC.intro hΘ Tryz.func180 rfl rfl Tryz.ntmps180 rfl rfl rfl fun B hB => ?_
  (conv => whnf)
  have h34 : ((b.toNat : Int) = 34) ↔ b = 34 := by
    constructor
    · intro h; apply UInt8.toNat_inj.1; show b.toNat = 34; omega
    · rintro rfl; rfl
  refine brm_p (fun h1 => ?_) (fun h1 => ?_) <;> (conv => whnf)
  · refine brm_p (fun h2 => ?_) (fun h2 => ?_) <;> (conv => whnf)
    · refine vfin_bool ?_
      rw [Bool.eq_iff_iff]
      simp [tgChar, bne, h34]; omega
    · exact vfin_bool (by simp [tgChar]; omega)
  · exact vfin_bool (by simp [tgChar]; omega)
theorem tagOkI_c (w : Bool) (t : ByteArray) (ht : (sb t).length ≤ 140737488355328) : VC Tryz.prog 144 [tagAgg w t] (.val (.bool (Tg.ok ⟨w, sb t⟩))) := by
  refine VC.intro hΘ Tryz.func144 rfl rfl Tryz.ntmps144 rfl rfl rfl fun B hB => ?_
  (conv => whnf)
  refine brm_p (fun h3 => ?_) (fun h3 => ?_) <;> (conv => whnf)
  · have e3 : decide ((sb t).length ≤ 40) = true := by simp only [decide_eq_true_eq]; omega
    refine vcallS_intro0 rfl (all_c 180 tgChar tagFn_c t ht) (f1 (av rfl) (f1 (av rfl) f0)) ?_
    (conv => whnf)
    exact vfin_bool (by unfold Tg.ok; rw [e3]; rfl)
  · exact vfin_bool (by
      have e : decide ((sb t).length ≤ 40) = false := by simp only [decide_eq_false_iff_not]; omega
      unfold Tg.ok; rw [e]; rfl)
/-! the text of a tag: bytes -/
theorem cat_ok {x y : ByteArray} (h : (sb x).length ≤ 1000000) (h' : (sb y).length ≤ 1000000) : (sb x).length + (sb y).length ≤ cap63 := by unfold cap63; omega
def tgTxt (w : Bool) (t : List UInt8) : List UInt8 := if Tg.ok ⟨w, t⟩ then Tg.shw ⟨w, t⟩ else []
theorem showTagS_c (w : Bool) (t : ByteArray) : VC Tryz.prog 137 [tagAgg w t] (.val (.string (bs (tgTxt w (sb t))))) := by
  have cs : Tg.ok ⟨w, sb t⟩ = true → VC Tryz.prog 167 [tagAgg w t] (.val (.string (bs (Tg.shw ⟨w, sb t⟩)))) := by
    intro hok
    have hl : (sb t).length ≤ 40 := by simp only [Tg.ok, Bool.and_eq_true, decide_eq_true_eq] at hok; exact hok.1
    refine VC.intro hΘ Tryz.func167 rfl rfl Tryz.ntmps167 rfl rfl rfl fun B hB => ?_
    (conv => whnf)
    refine vreq_intro (cat_ok (by decide) (by omega)) ?_
    (conv => whnf)
    refine vreq_intro (cat_ok (by rw [sb_bs, List.length_append]; show 1 + (sb t).length ≤ _; omega) (by decide)) ?_
    cases w with
    | true =>
      (conv => whnf)
      refine vreq_intro (cat_ok (by decide) (by rw [sb_bs, List.length_append, sb_bs, List.length_append]; show 1 + (sb t).length + 1 ≤ _; omega)) ?_
      (conv => whnf)
      exact vfin_str (by simp only [sb_bs, Tg.shw]; congr 1)
    | false =>
      (conv => whnf)
      exact vfin_str (by simp only [sb_bs, Tg.shw]; congr 1)
  refine VC.intro hΘ Tryz.func137 rfl rfl Tryz.ntmps137 rfl rfl rfl fun B hB => ?_
  (conv => whnf)
  refine call_bb rfl (tagOkS_c w t) (f1 (fa (l1 (fv rfl) (l1 (fv rfl) l0))) f0) (fun h => ?_) (fun h => ?_) <;> (conv => whnf)
  · refine vcallS_intro0 rfl (cs h) (f1 (fa (l1 (fv rfl) (l1 (fv rfl) l0))) f0) ?_
    (conv => whnf)
    exact vfin_str (by unfold tgTxt; rw [if_pos h])
  · exact vfin_str (by unfold tgTxt; rw [h]; rfl)
theorem showTagI_c (w : Bool) (t : ByteArray) (ht : (sb t).length ≤ 140737488355328) : VC Tryz.prog 145 [tagAgg w t] (.val (.string (bs (tgTxt w (sb t))))) := by
  refine VC.intro hΘ Tryz.func145 rfl rfl Tryz.ntmps145 rfl rfl rfl fun B hB => ?_
  (conv => whnf)
  refine call_bb rfl (tagOkI_c w t ht) (f1 (fa (l1 (fv rfl) (l1 (fv rfl) l0))) f0) (fun h => ?_) (fun h => ?_) <;> (conv => whnf)
  · have hl : (sb t).length ≤ 40 := by simp only [Tg.ok, Bool.and_eq_true, decide_eq_true_eq] at h; exact h.1
    cases w with
    | true =>
      (conv => whnf)
      refine vreq_intro (cat_ok (by decide) (by omega)) ?_
      (conv => whnf)
      refine vreq_intro (cat_ok (by rw [sb_bs, List.length_append]; show 3 + (sb t).length ≤ _; omega) (by decide)) ?_
      (conv => whnf)
      exact vfin_str (by simp only [tgTxt, h, if_true, sb_bs, Tg.shw]; congr 1)
    | false =>
      (conv => whnf)
      refine vreq_intro (cat_ok (by decide) (by omega)) ?_
      (conv => whnf)
      refine vreq_intro (cat_ok (by rw [sb_bs, List.length_append]; show 1 + (sb t).length ≤ _; omega) (by decide)) ?_
      (conv => whnf)
      exact vfin_str (by simp only [tgTxt, h, if_true, sb_bs, Tg.shw]; congr 1)
  · exact vfin_str (by unfold tgTxt; rw [h]; rfl)
end Go.Proofs.YtfdmlccbfbiloaaGreatDoor
namespace Go.Proofs.YtfdmlccbfbiloaaGreatDoor
open Go Go.Proofs.YtfdmlccbfbiloaaGreatDoor.Vs
variable [Gl]
set_option linter.unusedSectionVars false

/-! #### a tag is read, both -/
theorem cutPrefix_c (s p : ByteArray) : VC Tryz.prog 133 [.val (.string s), .val (.string p)] (.tup [.val (.string (bs (Lib.trimPrefix (sb s) (sb p)))), .val (.bool (Lib.hasPrefix (sb s) (sb p)))]) :=
  VC.of_tupG (xs := [.string s, .string p]) (ys := [.string (bs (Lib.trimPrefix (sb s) (sb p))), .bool (Lib.hasPrefix (sb s) (sb p))]) Tryz.func133 rfl rfl rfl fun _ w _ =>
    (Tryz.strings_CutPrefix s p w).mono fun _ _ ⟨h1, h2⟩ => ⟨h1, h2 ▸ RowKit.Below.refl _ _⟩
theorem trimQ_c (s : ByteArray) (hs : (sb s).length ≤ 140737488355328) : VC Tryz.prog 143 [.val (.string s), .val (.string ⟨#[34]⟩)] (.val (.string (bs (Lib.trimS (sb s) [34])))) := by
  refine VC.of_vals (xs := [.string s, .string ⟨#[34]⟩]) Tryz.func143 rfl rfl rfl fun w => ?_
  exact Any.strings_Trim_laid Tryz.lays160 (by kernel_rfl) s ⟨#[34]⟩ w (by rw [size_sb]; omega) (by decide) (ascii_of_all (by decide))
theorem trimS_len (l cs : List UInt8) : (Lib.trimS l cs).length ≤ l.length := by
  have d : ∀ (p : UInt8 → Bool) (l : List UInt8), (l.dropWhile p).length ≤ l.length := fun p l => (List.dropWhile_suffix p).length_le
  unfold Lib.trimS Lib.trimLeftS Lib.trimRightS
  refine Nat.le_trans (d _ _) ?_
  rw [List.length_reverse]
  exact Nat.le_trans (d _ _) (by simp)
theorem trimP_len (l p : List UInt8) : (Lib.trimPrefix l p).length ≤ l.length := by
  unfold Lib.trimPrefix; split
  · simp
  · exact Nat.le_refl _
theorem tgOk_of {s : List UInt8} (h : tgOk s = true) : (tgS s).ok = true ∧ (tgS s).shw = s := by
  unfold tgOk Tg.shows at h
  simpa using h
theorem tgOk_short {s : List UInt8} (h : (tgK s).2.length < 2) : tgOk s = false := by
  cases ho : tgOk s with
  | false => rfl
  | true =>
    exfalso
    obtain ⟨h1, h2⟩ := tgOk_of ho
    have e := tgS_shw h1
    have hk : (tgK (tgS s).shw).2 = 34 :: ((tgS s).t ++ [34]) := by
      generalize tgS s = x
      obtain ⟨w, t⟩ := x
      cases w <;> simp [tgK, Tg.shw] <;> cases t <;> simp
    rw [h2] at hk
    rw [hk] at h
    simp at h
    omega
theorem tgV_no {s : List UInt8} (h : tgOk s = false) : tgV s = .tup [.agg [.val (.bool false), .val (.string ⟨⟨[]⟩⟩)], .val (.bool false)] := by unfold tgV; rw [h]; rfl
theorem tgV_yes {s : List UInt8} (h : tgOk s = true) : tgV s = .tup [.agg [.val (.bool (tgS s).w), .val (.string (bs (tgS s).t))], .val (.bool true)] := by unfold tgV; rw [h]; rfl
/-- the text is shown as it is, or not -/
theorem txt_no {w : Bool} {t s : List UInt8} (h : ¬ tgTxt w t = s) : Tg.shows ⟨w, t⟩ s = false := by
  unfold Tg.shows
  unfold tgTxt at h
  cases ho : Tg.ok ⟨w, t⟩ with
  | false => rfl
  | true => rw [ho] at h; simpa using h
theorem txt_yes {w : Bool} {t s : List UInt8} (hs : s ≠ []) (h : tgTxt w t = s) : Tg.shows ⟨w, t⟩ s = true := by
  unfold Tg.shows
  unfold tgTxt at h
  cases ho : Tg.ok ⟨w, t⟩ with
  | false => rw [ho] at h; exact absurd h.symm hs
  | true => rw [ho] at h; simpa using h
theorem readTagI_c (s : ByteArray) (hs : (sb s).length ≤ 140737488355328) : VC Tryz.prog 113 [.val (.string s)] (tgV (sb s)) := by
  refine VC.intro hΘ Tryz.func113 rfl rfl Tryz.ntmps113 rfl rfl (by unfold tgV; split <;> rfl) fun B hB => ?_
  (conv => whnf)
  refine vcallS_intro0 rfl (cutPrefix_c s ⟨#[87, 47]⟩) (f1 (av rfl) (f1 (av rfl) f0)) ?_
  (conv => whnf)
  obtain ⟨k, hk⟩ : ∃ k : ByteArray, k = bs (Lib.trimPrefix (sb s) (sb ⟨#[87, 47]⟩)) := ⟨_, rfl⟩
  rw [← hk]
  obtain ⟨w, hw⟩ : ∃ w : Bool, w = Lib.hasPrefix (sb s) (sb ⟨#[87, 47]⟩) := ⟨_, rfl⟩
  rw [← hw]
  have hkl : (sb k).length ≤ 140737488355328 := by rw [hk, sb_bs]; exact Nat.le_trans (trimP_len _ _) hs
  refine call_l rfl (trimQ_c k hkl) (f1 (av rfl) (f1 (av rfl) f0)) fun t ht => ?_
  (conv => whnf)
  have htl : (sb (bs t)).length ≤ 140737488355328 := by rw [sb_bs, ht]; exact Nat.le_trans (trimS_len _ _) hkl
  have hT : tgI (sb s) = ⟨w, t⟩ := by
    unfold tgI
    rw [ht, hk, sb_bs]
    have hw' : w = Lib.hasPrefix (sb s) [87, 47] := hw
    unfold Lib.trimPrefix
    show _ = (⟨w, Lib.trimS (if Lib.hasPrefix (sb s) [87, 47] = true then (sb s).drop 2 else sb s) [34]⟩ : Tg)
    rw [hw']
    cases Lib.hasPrefix (sb s) [87, 47] <;> rfl
  have hO : Tg.shows ⟨w, t⟩ (sb s) = tgOk (sb s) := by rw [← hT]; exact tgI_shows _
  refine call_bb rfl (tagOkI_c w (bs t) htl) (f1 (fa (l1 (fv rfl) (l1 (fv rfl) l0))) f0) (fun h => ?_) (fun h => ?_) <;> (conv => whnf)
  rotate_left
  · rw [tgV_no (by rw [← hO]; unfold Tg.shows; rw [show Tg.ok ⟨w, t⟩ = false from h]; rfl)]
    exact vfin_tup2 rfl rfl
  refine call_l rfl (showTagI_c w (bs t) htl) (f1 (fa (l1 (fv rfl) (l1 (fv rfl) l0))) f0) fun y hy => ?_
  (conv => whnf)
  have hy : y = Tg.shw ⟨w, t⟩ := by rw [hy, sb_bs]; unfold tgTxt; rw [show Tg.ok ⟨w, t⟩ = true from h]; rfl
  refine brm_ne' (fun h2 => ?_) (fun h2 => ?_) <;> (conv => whnf)
  · rw [tgV_no (by rw [← hO]; unfold Tg.shows; rw [← hy]; rw [sb_bs] at h2; simp [h2])]
    exact vfin_tup2 rfl rfl
  · rw [sb_bs] at h2
    have hok : tgOk (sb s) = true := by rw [← hO]; unfold Tg.shows; rw [show Tg.ok ⟨w, t⟩ = true from h, ← hy]; simp [h2]
    rw [tgV_yes hok, ← tgI_eq hok, hT]
    exact vfin_tup2 rfl rfl
theorem readTagS_c (s : ByteArray) (hs : (sb s).length ≤ 140737488355328) : VC Tryz.prog 105 [.val (.string s)] (tgV (sb s)) := by
  refine VC.intro hΘ Tryz.func105 rfl rfl Tryz.ntmps105 rfl rfl (by unfold tgV; split <;> rfl) fun B hB => ?_
  (conv => whnf)
  have short : ∀ {w : Bool} {k : List UInt8}, tgK (sb s) = (w, k) → (k.length : Int) < 2 → tgOk (sb s) = false := by
    intro w k hk h
    refine tgOk_short ?_
    rw [hk]; show k.length < 2; omega
  have fin : ∀ {w : Bool} {k : List UInt8}, tgK (sb s) = (w, k) → tgS (sb s) = ⟨w, (k.drop 1).take (k.length - 1 - 1)⟩ := by
    intro w k hk
    unfold tgS; rw [hk]
  have no : ∀ {w : Bool} {k : List UInt8}, tgK (sb s) = (w, k) → 2 ≤ k.length → sb s ≠ [] := by
    intro w k hk h e
    rw [e] at hk
    have : k = [] := by
      unfold tgK at hk
      simp at hk
      exact hk.2
    subst this; simp at h
  refine brm_p (fun h1 => ?_) (fun h1 => ?_) <;> (conv => whnf)
  · refine vrange_intro 0 2 rfl rfl (by omega) (by omega) ?_
    (conv => whnf)
    refine brm_eq (fun h2 => ?_) (fun h2 => ?_) <;> (conv => whnf)
    · refine vrange_intro 2 (sb s).length rfl rfl (by omega) (by omega) ?_
      (conv => whnf)
      obtain ⟨k, hk⟩ : ∃ k : ByteArray, k = bs (((sb s).drop 2).take ((sb s).length - 2)) := ⟨_, rfl⟩
      rw [← hk]
      have hK : tgK (sb s) = (true, sb k) := by
        unfold tgK
        have e : (decide (2 < (sb s).length) && (sb s).take 2 == [87, 47]) = true := by
          rw [decide_eq_true (by omega : 2 < (sb s).length)]
          have : (sb s).take 2 = [87, 47] := h2
          rw [this]; rfl
        rw [if_pos e, hk, sb_bs, List.take_of_length_le (by simp)]
      have hkl : (sb k).length ≤ (sb s).length := by rw [hk, sb_bs]; simp
      clear hk
      refine brm_p (fun h3 => ?_) (fun h3 => ?_) <;> (conv => whnf)
      · rw [tgV_no (short hK h3)]
        exact vfin_tup2 rfl rfl
      refine vrange_intro 1 ((sb k).length - 1) rfl (by rw [wrap_i64 (by omega) (by omega)]; omega) (by omega) (by omega) ?_
      (conv => whnf)
      have hS := fin hK
      generalize ((sb k).drop 1).take ((sb k).length - 1 - 1) = t at hS ⊢
      refine call_l rfl (showTagS_c true (bs t)) (f1 (fa (l1 (fv rfl) (l1 (fv rfl) l0))) f0) fun y hy => ?_
      (conv => whnf)
      refine brm_ne' (fun h4 => ?_) (fun h4 => ?_) <;> (conv => whnf)
      · rw [tgV_no (by unfold tgOk; rw [hS]; exact txt_no (by rw [sb_bs] at hy h4; rw [← hy]; exact h4))]
        exact vfin_tup2 rfl rfl
      · rw [tgV_yes (by unfold tgOk; rw [hS]; exact txt_yes (no hK (by omega)) (by rw [sb_bs] at hy h4; rw [← hy]; exact h4)), hS]
        exact vfin_tup2 rfl rfl
    · have hK : tgK (sb s) = (false, sb s) := by
        unfold tgK
        rw [if_neg]
        intro e
        simp only [Bool.and_eq_true, beq_iff_eq] at e
        exact h2 e.2
      refine brm_p (fun h3 => ?_) (fun h3 => ?_) <;> (conv => whnf)
      · rw [tgV_no (short hK h3)]
        exact vfin_tup2 rfl rfl
      refine vrange_intro 1 ((sb s).length - 1) rfl (by rw [wrap_i64 (by omega) (by omega)]; omega) (by omega) (by omega) ?_
      (conv => whnf)
      have hS := fin hK
      generalize ((sb s).drop 1).take ((sb s).length - 1 - 1) = t at hS ⊢
      refine call_l rfl (showTagS_c false (bs t)) (f1 (fa (l1 (fv rfl) (l1 (fv rfl) l0))) f0) fun y hy => ?_
      (conv => whnf)
      refine brm_ne' (fun h4 => ?_) (fun h4 => ?_) <;> (conv => whnf)
      · rw [tgV_no (by unfold tgOk; rw [hS]; exact txt_no (by rw [sb_bs] at hy h4; rw [← hy]; exact h4))]
        exact vfin_tup2 rfl rfl
      · rw [tgV_yes (by unfold tgOk; rw [hS]; exact txt_yes (no hK (by omega)) (by rw [sb_bs] at hy h4; rw [← hy]; exact h4)), hS]
        exact vfin_tup2 rfl rfl
  · have hK : tgK (sb s) = (false, sb s) := by
      unfold tgK
      rw [if_neg]
      intro e
      simp only [Bool.and_eq_true, decide_eq_true_eq] at e
      omega
    refine brm_p (fun h3 => ?_) (fun h3 => ?_) <;> (conv => whnf)
    · rw [tgV_no (short hK h3)]
      exact vfin_tup2 rfl rfl
    refine vrange_intro 1 ((sb s).length - 1) rfl (by rw [wrap_i64 (by omega) (by omega)]; omega) (by omega) (by omega) ?_
    (conv => whnf)
    have hS := fin hK
    generalize ((sb s).drop 1).take ((sb s).length - 1 - 1) = t at hS ⊢
    refine call_l rfl (showTagS_c false (bs t)) (f1 (fa (l1 (fv rfl) (l1 (fv rfl) l0))) f0) fun y hy => ?_
    (conv => whnf)
    refine brm_ne' (fun h4 => ?_) (fun h4 => ?_) <;> (conv => whnf)
    · rw [tgV_no (by unfold tgOk; rw [hS]; exact txt_no (by rw [sb_bs] at hy h4; rw [← hy]; exact h4))]
      exact vfin_tup2 rfl rfl
    · rw [tgV_yes (by unfold tgOk; rw [hS]; exact txt_yes (no hK (by omega)) (by rw [sb_bs] at hy h4; rw [← hy]; exact h4)), hS]
      exact vfin_tup2 rfl rfl
end Go.Proofs.YtfdmlccbfbiloaaGreatDoor
namespace Go.Proofs.YtfdmlccbfbiloaaGreatDoor
open Go Go.Proofs.YtfdmlccbfbiloaaGreatDoor.Vs
variable [Gl]
set_option linter.unusedSectionVars false

/-! #### a text is cut at the first '=' (no program here) -/
def cutR : List UInt8 → Option (List UInt8 × List UInt8)
  | [] => none
  | b :: r => if b == 61 then some ([], r) else (cutR r).map fun p => (b :: p.1, p.2)
theorem cutR_none : ∀ {x : List UInt8}, cutR x = none → (61 : UInt8) ∉ x ∧ Lib.indexByte x 61 = -1
  | [], _ => ⟨by simp, rfl⟩
  | b :: r, h => by
    unfold cutR at h
    split at h
    · cases h
    · rename_i hb
      have hr : cutR r = none := by
        cases hc : cutR r with
        | none => rfl
        | some p => rw [hc] at h; cases h
      obtain ⟨h1, h2⟩ := cutR_none hr
      refine ⟨?_, ?_⟩
      · intro hm
        rcases List.mem_cons.1 hm with rfl | hm
        · exact hb rfl
        · exact h1 hm
      · unfold Lib.indexByte
        rw [if_neg hb, h2]; rfl
theorem cutR_some : ∀ {x n c : List UInt8}, cutR x = some (n, c) → x = n ++ 61 :: c ∧ Lib.indexByte x 61 = n.length
  | [], _, _, h => by cases h
  | b :: r, n, c, h => by
    unfold cutR at h
    split at h
    · rename_i hb
      simp only [Option.some.injEq, Prod.mk.injEq] at h
      obtain ⟨rfl, rfl⟩ := h
      have : b = 61 := by simpa using hb
      subst this
      exact ⟨rfl, rfl⟩
    · rename_i hb
      cases hc : cutR r with
      | none => rw [hc] at h; cases h
      | some p =>
        rw [hc] at h
        simp only [Option.map_some, Option.some.injEq, Prod.mk.injEq] at h
        obtain ⟨rfl, rfl⟩ := h
        obtain ⟨h1, h2⟩ := cutR_some (n := p.1) (c := p.2) hc
        refine ⟨by rw [List.cons_append, ← h1], ?_⟩
        unfold Lib.indexByte
        rw [if_neg hb, h2]
        have : ((p.1.length : Int) == -1) = false := by rw [beq_eq_false_iff_ne]; omega
        rw [this]
        simp
theorem cutR_app : ∀ {n d : List UInt8}, (n.all fun b => !(b == 61)) = true → cutR (n ++ 61 :: d) = some (n, d)
  | [], d, _ => rfl
  | b :: r, d, h => by
    rw [List.all_cons, Bool.and_eq_true] at h
    have hb : (b == 61) = false := by simpa using h.1
    rw [List.cons_append]
    unfold cutR
    rw [hb, cutR_app h.2]
    rfl
theorem told_none {n x : List UInt8} (h : cutR x = none) : told (n ++ [61]) x = none := by
  unfold told
  rw [if_neg]
  intro e
  simp only [Bool.and_eq_true, beq_iff_eq] at e
  have h1 := (cutR_none h).1
  have : (61 : UInt8) ∈ x.take (n ++ [61]).length := by rw [e.2]; simp
  exact h1 (List.mem_of_mem_take this)
theorem told_some {n x a c : List UInt8} (hn : (n.all fun b => !(b == 61)) = true) (h : cutR x = some (a, c)) : told (n ++ [61]) x = if a = n then (digits c).map (fun v => min secM v) else none := by
  obtain ⟨hx, _⟩ := cutR_some h
  by_cases ha : a = n
  · subst ha
    rw [if_pos rfl]
    unfold told
    have e1 : x.drop (a ++ [61]).length = c := by rw [hx]; simp
    have e2 : x.take (a ++ [61]).length = a ++ [61] := by rw [hx, show a ++ 61 :: c = (a ++ [61]) ++ c by simp, List.take_left]
    rw [e1, e2]
    cases hc : c with
    | nil =>
      rw [if_neg (by rw [hx, hc]; simp)]
      rfl
    | cons b r =>
      rw [if_pos (by rw [hx, hc]; simp)]
  · rw [if_neg ha]
    unfold told
    rw [if_neg]
    intro e
    simp only [Bool.and_eq_true, beq_iff_eq] at e
    have hx2 : x = n ++ 61 :: x.drop (n ++ [61]).length := by
      have := List.take_append_drop (n ++ [61]).length x
      rw [e.2] at this
      simpa using this.symm
    rw [hx2, cutR_app hn] at h
    simp only [Option.some.injEq, Prod.mk.injEq] at h
    exact ha h.1.symm
theorem ne_word {x w a c : List UInt8} (h : cutR x = some (a, c)) (hw : cutR w = none) : ¬ x = w := by rintro rfl; rw [hw] at h; cases h
theorem beq_no {x w : List UInt8} (h : ¬ x = w) : (x == w) = false := by simpa using h
theorem tell_none (v : Int) : tell v none = v := by unfold tell; split <;> rfl
/-- what a step does where the text is cut -/
theorem step_cut {x a c : List UInt8} (k : Ctl) (h : cutR x = some (a, c)) : ctlStep k x = ⟨tell k.ma (if a = maW then (digits c).map (fun v => min secM v) else none), tell k.sh (if a = shW then (digits c).map (fun v => min secM v) else none), tell k.st (if a = stW then (digits c).map (fun v => min secM v) else none), k.ns, k.nc, k.pr, k.mu⟩ := by
  unfold ctlStep
  rw [told_some (by decide) h, told_some (by decide) h, told_some (by decide) h, if_neg (ne_word h (by decide) : ¬ x = stW), tell_none, beq_no (ne_word h (by decide) : ¬ x = nsW), beq_no (ne_word h (by decide) : ¬ x = ncW), beq_no (ne_word h (by decide) : ¬ x = prW), beq_no (ne_word h (by decide) : ¬ x = muW)]
  simp
theorem step_word {x : List UInt8} (k : Ctl) (h : cutR x = none) : ctlStep k x = ⟨k.ma, k.sh, tell k.st (if x = stW then some secM else none), k.ns || x == nsW, k.nc || x == ncW, k.pr || x == prW, k.mu || x == muW⟩ := by
  unfold ctlStep
  rw [told_none h, told_none h, told_none h, tell_none, tell_none, tell_none]

/-! #### strings.Cut -/
theorem slIndexByte_c (s : ByteArray) (c : Int) : VC Tryz.prog 199 [.val (.string s), .val (.int .u8 c)] (.val (.int .i64 (Lib.indexByte (sb s) c.toNat.toUInt8))) :=
  VC.of_vals (xs := [.string s, .int .u8 c]) Tryz.func199 rfl rfl rfl fun w => (Tryz.stringslite_IndexByte s c w).mono fun _ _ ⟨h1, h2⟩ => ⟨h1, h2 ▸ Go.RowKit.Below.refl _ _⟩
theorem slIndex1_c (s : ByteArray) : VC Tryz.prog 186 [.val (.string s), .val (.string ⟨#[61]⟩)] (.val (.int .i64 (Lib.indexByte (sb s) 61))) := by
  refine VC.intro hΘ Tryz.func186 rfl rfl Tryz.ntmps186 rfl rfl rfl fun B hB => ?_
  (conv => whnf)
  refine brm_eq (fun h => ?_) (fun h => ?_) <;> (conv => whnf)
  · refine vfin_int ?_
    rw [← show sb ⟨#[61]⟩ = sb s from h]; rfl
  · refine vix_intro 0 rfl (by decide) ?_
    (conv => whnf)
    refine vcallS_intro0 rfl (slIndexByte_c s 61) (f1 (av rfl) (f1 (av rfl) f0)) ?_
    (conv => whnf)
    exact vfin_int rfl
def cutV (x : List UInt8) : V := match cutR x with
  | some (a, c) => .tup [.val (.string (bs a)), .val (.string (bs c)), .val (.bool true)]
  | none => .tup [.val (.string (bs x)), .val (.string ⟨⟨[]⟩⟩), .val (.bool false)]
theorem slCut_c (s : ByteArray) (hs : (sb s).length ≤ 140737488355328) : VC Tryz.prog 172 [.val (.string s), .val (.string ⟨#[61]⟩)] (cutV (sb s)) := by
  refine VC.intro hΘ Tryz.func172 rfl rfl Tryz.ntmps172 rfl rfl (by unfold cutV; split <;> rfl) fun B hB => ?_
  (conv => whnf)
  refine call_i rfl (slIndex1_c s) (f1 (av rfl) (f1 (av rfl) f0)) fun i hi => ?_
  (conv => whnf)
  cases hc : cutR (sb s) with
  | none =>
    rw [(cutR_none hc).2] at hi
    subst hi
    (conv => whnf)
    unfold cutV; rw [hc]
    exact vfin_tup3 rfl rfl rfl
  | some p =>
    obtain ⟨a, c⟩ := p
    obtain ⟨hx, he⟩ := cutR_some hc
    rw [he] at hi
    have hl : (sb s).length = a.length + (c.length + 1) := by rw [hx]; simp
    refine brm_p (fun h => ?_) (fun h => absurd h (by omega)) <;> (conv => whnf)
    refine vdraw_intro hΘ hB mixed (by kernel_rfl) ?_
    (conv => whnf)
    refine vrange_intro 0 a.length rfl hi (by omega) (by omega) ?_
    (conv => whnf)
    refine vrange_intro (a.length + 1) (sb s).length (by rw [hi, wrap_i64 (by show _ ≤ (a.length : Int) + 1; omega) (by show (a.length : Int) + 1 ≤ _; omega)]; rfl) rfl (by omega) (by omega) ?_
    (conv => whnf)
    unfold cutV; rw [hc]
    refine vfin_tup3 ?_ ?_ rfl
    · have : ((sb s).drop 0).take (a.length - 0) = a := by rw [hx]; simp
      rw [this]
    · have : ((sb s).drop (a.length + 1)).take ((sb s).length - (a.length + 1)) = c := by
        have h1 : (sb s).drop (a.length + 1) = c := by
          rw [hx, show a ++ 61 :: c = (a ++ [61]) ++ c by simp, show a.length + 1 = (a ++ [61]).length by simp, List.drop_left]
        rw [h1, List.take_of_length_le (by omega)]
      rw [this]
theorem cut_c (s : ByteArray) (hs : (sb s).length ≤ 140737488355328) : VC Tryz.prog 142 [.val (.string s), .val (.string ⟨#[61]⟩)] (cutV (sb s)) := by
  have c1 := slCut_c s hs
  unfold cutV at c1 ⊢
  cases hc : cutR (sb s) with
  | none =>
    rw [hc] at c1
    refine VC.intro hΘ Tryz.func142 rfl rfl Tryz.ntmps142 rfl rfl rfl fun B hB => ?_
    (conv => whnf)
    refine vcallS_intro0 rfl c1 (f1 (av rfl) (f1 (av rfl) f0)) ?_
    (conv => whnf)
    exact vfin_tup3 rfl rfl rfl
  | some p =>
    rw [hc] at c1
    refine VC.intro hΘ Tryz.func142 rfl rfl Tryz.ntmps142 rfl rfl rfl fun B hB => ?_
    (conv => whnf)
    refine vcallS_intro0 rfl c1 (f1 (av rfl) (f1 (av rfl) f0)) ?_
    (conv => whnf)
    exact vfin_tup3 rfl rfl rfl

/-! #### the reference's words -/
theorem minS_c (x y : Int) : VC Tryz.prog 79 [.val (.int .i64 x), .val (.int .i64 y)] (.val (.int .i64 (min x y))) := by
  refine VC.intro hΘ Tryz.func79 rfl rfl Tryz.ntmps79 rfl rfl rfl fun B hB => ?_
  (conv => whnf)
  refine brm_p (fun h => ?_) (fun h => ?_) <;> (conv => whnf)
  · exact vfin_int (by omega)
  · exact vfin_int (by omega)
def toldV (o : Option Int) : V := .tup [.val (.int .i64 (o.getD 0)), .val (.bool o.isSome)]
theorem l9Told_c (x n : ByteArray) (hx : (sb x).length ≤ 140737488355328) (o : Option Int) (ho : told (sb n) (sb x) = o) : VC Tryz.prog 136 [.val (.string x), .val (.string n)] (toldV o) := by
  refine VC.intro hΘ Tryz.func136 rfl rfl Tryz.ntmps136 rfl rfl rfl fun B hB => ?_
  (conv => whnf)
  refine brm_p (fun h => ?_) (fun h => ?_) <;> (conv => whnf)
  · have : o = none := by
      rw [← ho]; unfold told; rw [if_neg]
      simp only [Bool.and_eq_true, decide_eq_true_eq]; omega
    subst this
    exact vfin_tup2 rfl rfl
  refine vrange_intro 0 (sb n).length rfl rfl (by omega) (by omega) ?_
  (conv => whnf)
  refine brm_ne' (fun h2 => ?_) (fun h2 => ?_) <;> (conv => whnf)
  · have : o = none := by
      rw [← ho]; unfold told; rw [if_neg]
      simp only [Bool.and_eq_true, beq_iff_eq]
      exact fun e => h2 e.2
    subst this
    exact vfin_tup2 rfl rfl
  have h2 : (sb x).take (sb n).length = sb n := h2
  refine vrange_intro (sb n).length (sb x).length rfl rfl (by omega) (by omega) ?_
  (conv => whnf)
  have he : ((sb x).drop (sb n).length).take ((sb x).length - (sb n).length) = (sb x).drop (sb n).length := List.take_of_length_le (by simp)
  rw [he]
  have cd := digitsS_c (bs ((sb x).drop (sb n).length)) (by rw [sb_bs, List.length_drop]; omega)
  rw [sb_bs] at cd
  have ht : told (sb n) (sb x) = (digits ((sb x).drop (sb n).length)).map fun v => min secM v := by
    unfold told; rw [if_pos]
    simp only [Bool.and_eq_true, decide_eq_true_eq, beq_iff_eq]
    exact ⟨by omega, h2⟩
  rw [ht] at ho
  generalize (sb x).drop (sb n).length = d at cd ho ⊢
  refine vcallS_intro0 rfl cd (f1 (av rfl) f0) ?_
  (conv => whnf)
  refine vcallS_intro0 rfl (minS_c 1000000000 ((digits d).getD 0)) (f1 (av rfl) (f1 (av rfl) f0)) ?_
  (conv => whnf)
  subst ho
  cases hd : digits d with
  | none => exact vfin_tup2 rfl rfl
  | some v => exact vfin_tup2 rfl rfl

set_option maxRecDepth 100000 in
set_option maxHeartbeats 4000000 in
theorem readControlS_c (s : ByteArray) (hs : (sb s).length ≤ 140737488355328) : VC Tryz.prog 103 [.val (.string s)] (ctl (sb s)).v := by
  refine VC.intro hΘ Tryz.func103 rfl rfl Tryz.ntmps103 rfl rfl rfl fun B hB => ?_
  (conv => whnf)
  refine vcallS_intro0 rfl (itemsS_c s hs) (f1 (av rfl) f0) ?_
  (conv => whnf)
  have hcnt := itemsB_cnt (sb s)
  have hlen : ∀ x ∈ itemsB (sb s), (sb x).length ≤ 140737488355328 := fun x hx => Nat.le_trans (itemsB_len hx) (by decide)
  unfold ctl
  generalize itemsB (sb s) = L at hcnt hlen ⊢
  refine vloop_intro hΘ hB (ι := Nat × Ctl) (fun p => ⟨[(2, .ptr 2 0), (3, .ptr 3 0), (4, .own 1 (L.map strC)), (5, .val (.int .i64 p.1))], [(2, [.val (.int .i64 0), .val (.int .i64 0), .val (.int .i64 0), .val (.bool false), .val (.bool false), .val (.bool false), .val (.bool false)]), (3, p.2.cs)]⟩) (fun p => p.1 ≤ L.length ∧ ctlL p.2 (L.drop p.1) = ctlL Ctl.z L) (fun p => L.length - p.1) (0, Ctl.z)
    ⟨⟨.inr rfl, .inr rfl, .inr rfl, .inr rfl, trivial⟩, ⟨⟨.inr rfl, .inr rfl, .inr rfl, .inr rfl, .inr rfl, .inr rfl, .inr rfl, trivial⟩, ⟨.inr rfl, .inr rfl, .inr rfl, .inr rfl, .inr rfl, .inr rfl, .inr rfl, trivial⟩, trivial⟩⟩ ⟨Nat.zero_le _, rfl⟩ ?_
  rintro ⟨i, ma, sh, st, ns, nc, pr, mu⟩ ⟨k1, k2⟩
  simp only at k1 k2
  (conv => whnf)
  rw [List.length_map]
  refine brm_p (fun h => ?_) (fun h => ?_) <;> (conv => whnf)
  rotate_left
  · have : L.drop i = [] := List.drop_eq_nil_of_le (by omega)
    rw [this] at k2
    rw [← k2]
    exact vfin_agg rfl
  have hi : i < L.length := by omega
  obtain ⟨x0, hg, hm, hd⟩ := drop_at (xs := L) hi
  rw [hd] at k2
  have k2 : ctlL (ctlStep ⟨ma, sh, st, ns, nc, pr, mu⟩ (lower (sb x0))) (L.drop (i + 1)) = ctlL Ctl.z L := k2
  have hx := hlen x0 hm
  have hw := wrap_succ (i := i) (by omega)
  refine vix_intro i rfl (by rw [List.length_map]; omega) ?_
  (conv => whnf)
  refine vat_intro i _ rfl (strs_at hg) ?_
  (conv => whnf)
  have hxl : (lower (sb x0)).length ≤ 140737488355328 := by unfold lower; rw [List.length_map]; exact hx
  refine call_l rfl (lowerS_c x0 hx) (f1 (av rfl) f0) fun x hxe => ?_
  rw [← hxe] at k2 hxl
  clear hxe
  (conv => whnf)
  have T : ∀ (n : ByteArray) (o : Option Int), told (sb n) x = o → VC Tryz.prog 136 [.val (.string (bs x)), .val (.string n)] (toldV o) := fun n o h => l9Told_c (bs x) n hxl o h
  cases hc : cutR x with
  | none =>
    have hst := step_word ⟨ma, sh, st, ns, nc, pr, mu⟩ hc
    simp only at hst
    refine vcallS_intro0 rfl (T ⟨#[109, 97, 120, 45, 97, 103, 101, 61]⟩ none (told_none (n := maW) hc)) (f1 (av rfl) (f1 (av rfl) f0)) ?_
    (conv => whnf)
    refine vcallS_intro0 rfl (T ⟨#[115, 45, 109, 97, 120, 97, 103, 101, 61]⟩ none (told_none (n := shW) hc)) (f1 (av rfl) (f1 (av rfl) f0)) ?_
    (conv => whnf)
    refine vcallS_intro0 rfl (T ⟨#[109, 97, 120, 45, 115, 116, 97, 108, 101, 61]⟩ none (told_none (n := stW) hc)) (f1 (av rfl) (f1 (av rfl) f0)) ?_
    (conv => whnf)
    refine brm_eq (fun h1 => ?_) (fun h1 => ?_) <;> (conv => whnf)
    · have h1 : x = stW := h1
      subst h1
      refine brm_p (fun h2 => ?_) (fun h2 => ?_) <;> (conv => whnf)
      · have hst : ctlStep ⟨ma, sh, st, ns, nc, pr, mu⟩ stW = ⟨ma, sh, 1000000000, ns, nc, pr, mu⟩ := by
          rw [hst, if_pos rfl, show (stW == nsW) = false by decide, show (stW == ncW) = false by decide, show (stW == prW) = false by decide, show (stW == muW) = false by decide]
          simp [tell, secM, h2]
        exact ⟨(i + 1, ⟨ma, sh, 1000000000, ns, nc, pr, mu⟩), ⟨⟨.inr rfl, .inr rfl, .inr rfl, .inr (vint_eq hw), trivial⟩, ⟨⟨.inr rfl, .inr rfl, .inr rfl, .inr rfl, .inr rfl, .inr rfl, .inr rfl, trivial⟩, ⟨.inr rfl, .inr rfl, .inr rfl, .inr rfl, .inr rfl, .inr rfl, .inr rfl, trivial⟩, trivial⟩⟩, ⟨hi, by rw [hst] at k2; exact k2⟩, by simp only; omega⟩
      · have hst : ctlStep ⟨ma, sh, st, ns, nc, pr, mu⟩ stW = ⟨ma, sh, st, ns, nc, pr, mu⟩ := by
          rw [hst, if_pos rfl, show (stW == nsW) = false by decide, show (stW == ncW) = false by decide, show (stW == prW) = false by decide, show (stW == muW) = false by decide]
          simp [tell, h2]
        exact ⟨(i + 1, ⟨ma, sh, st, ns, nc, pr, mu⟩), ⟨⟨.inr rfl, .inr rfl, .inr rfl, .inr (vint_eq hw), trivial⟩, ⟨⟨.inr rfl, .inr rfl, .inr rfl, .inr rfl, .inr rfl, .inr rfl, .inr rfl, trivial⟩, ⟨.inr rfl, .inr rfl, .inr rfl, .inr rfl, .inr rfl, .inr rfl, .inr rfl, trivial⟩, trivial⟩⟩, ⟨hi, by rw [hst] at k2; exact k2⟩, by simp only; omega⟩
    have n1 : ¬ x = stW := h1
    rw [if_neg n1, tell_none] at hst
    refine brm_eq (fun h1 => ?_) (fun h1 => ?_) <;> (conv => whnf)
    · have h1 : x = nsW := h1
      subst h1
      have hst : ctlStep ⟨ma, sh, st, ns, nc, pr, mu⟩ nsW = ⟨ma, sh, st, true, nc, pr, mu⟩ := by
        rw [hst, show (nsW == nsW) = true by decide, show (nsW == ncW) = false by decide, show (nsW == prW) = false by decide, show (nsW == muW) = false by decide]
        simp
      exact ⟨(i + 1, ⟨ma, sh, st, true, nc, pr, mu⟩), ⟨⟨.inr rfl, .inr rfl, .inr rfl, .inr (vint_eq hw), trivial⟩, ⟨⟨.inr rfl, .inr rfl, .inr rfl, .inr rfl, .inr rfl, .inr rfl, .inr rfl, trivial⟩, ⟨.inr rfl, .inr rfl, .inr rfl, .inr rfl, .inr rfl, .inr rfl, .inr rfl, trivial⟩, trivial⟩⟩, ⟨hi, by rw [hst] at k2; exact k2⟩, by simp only; omega⟩
    have nnsW : (x == nsW) = false := beq_no h1
    refine brm_eq (fun h1 => ?_) (fun h1 => ?_) <;> (conv => whnf)
    · have h1 : x = ncW := h1
      subst h1
      have hst : ctlStep ⟨ma, sh, st, ns, nc, pr, mu⟩ ncW = ⟨ma, sh, st, ns, true, pr, mu⟩ := by
        rw [hst, show (ncW == nsW) = false by decide, show (ncW == ncW) = true by decide, show (ncW == prW) = false by decide, show (ncW == muW) = false by decide]
        simp
      exact ⟨(i + 1, ⟨ma, sh, st, ns, true, pr, mu⟩), ⟨⟨.inr rfl, .inr rfl, .inr rfl, .inr (vint_eq hw), trivial⟩, ⟨⟨.inr rfl, .inr rfl, .inr rfl, .inr rfl, .inr rfl, .inr rfl, .inr rfl, trivial⟩, ⟨.inr rfl, .inr rfl, .inr rfl, .inr rfl, .inr rfl, .inr rfl, .inr rfl, trivial⟩, trivial⟩⟩, ⟨hi, by rw [hst] at k2; exact k2⟩, by simp only; omega⟩
    have nncW : (x == ncW) = false := beq_no h1
    refine brm_eq (fun h1 => ?_) (fun h1 => ?_) <;> (conv => whnf)
    · have h1 : x = prW := h1
      subst h1
      have hst : ctlStep ⟨ma, sh, st, ns, nc, pr, mu⟩ prW = ⟨ma, sh, st, ns, nc, true, mu⟩ := by
        rw [hst, show (prW == nsW) = false by decide, show (prW == ncW) = false by decide, show (prW == prW) = true by decide, show (prW == muW) = false by decide]
        simp
      exact ⟨(i + 1, ⟨ma, sh, st, ns, nc, true, mu⟩), ⟨⟨.inr rfl, .inr rfl, .inr rfl, .inr (vint_eq hw), trivial⟩, ⟨⟨.inr rfl, .inr rfl, .inr rfl, .inr rfl, .inr rfl, .inr rfl, .inr rfl, trivial⟩, ⟨.inr rfl, .inr rfl, .inr rfl, .inr rfl, .inr rfl, .inr rfl, .inr rfl, trivial⟩, trivial⟩⟩, ⟨hi, by rw [hst] at k2; exact k2⟩, by simp only; omega⟩
    have nprW : (x == prW) = false := beq_no h1
    refine brm_eq (fun h1 => ?_) (fun h1 => ?_) <;> (conv => whnf)
    · have h1 : x = muW := h1
      subst h1
      have hst : ctlStep ⟨ma, sh, st, ns, nc, pr, mu⟩ muW = ⟨ma, sh, st, ns, nc, pr, true⟩ := by
        rw [hst, show (muW == nsW) = false by decide, show (muW == ncW) = false by decide, show (muW == prW) = false by decide, show (muW == muW) = true by decide]
        simp
      exact ⟨(i + 1, ⟨ma, sh, st, ns, nc, pr, true⟩), ⟨⟨.inr rfl, .inr rfl, .inr rfl, .inr (vint_eq hw), trivial⟩, ⟨⟨.inr rfl, .inr rfl, .inr rfl, .inr rfl, .inr rfl, .inr rfl, .inr rfl, trivial⟩, ⟨.inr rfl, .inr rfl, .inr rfl, .inr rfl, .inr rfl, .inr rfl, .inr rfl, trivial⟩, trivial⟩⟩, ⟨hi, by rw [hst] at k2; exact k2⟩, by simp only; omega⟩
    have nmuW : (x == muW) = false := beq_no h1
    rw [nnsW, nncW, nprW, nmuW] at hst
    simp only [Bool.or_false] at hst
    exact ⟨(i + 1, ⟨ma, sh, st, ns, nc, pr, mu⟩), ⟨⟨.inr rfl, .inr rfl, .inr rfl, .inr (vint_eq hw), trivial⟩, ⟨⟨.inr rfl, .inr rfl, .inr rfl, .inr rfl, .inr rfl, .inr rfl, .inr rfl, trivial⟩, ⟨.inr rfl, .inr rfl, .inr rfl, .inr rfl, .inr rfl, .inr rfl, .inr rfl, trivial⟩, trivial⟩⟩, ⟨hi, by rw [hst] at k2; exact k2⟩, by simp only; omega⟩
  | some p =>
    obtain ⟨nm, c⟩ := p
    have hst := step_cut ⟨ma, sh, st, ns, nc, pr, mu⟩ hc
    simp only at hst
    have q1 : ¬ x = stW := ne_word hc (by decide)
    have q2 : ¬ x = nsW := ne_word hc (by decide)
    have q3 : ¬ x = ncW := ne_word hc (by decide)
    have q4 : ¬ x = prW := ne_word hc (by decide)
    have q5 : ¬ x = muW := ne_word hc (by decide)
    have t1 := told_some (n := maW) (by decide) hc
    have t2 := told_some (n := shW) (by decide) hc
    have t3 := told_some (n := stW) (by decide) hc
    by_cases e1 : nm = maW
    · subst e1
      rw [if_pos rfl] at t1; rw [if_neg (by decide)] at t2 t3; rw [if_pos rfl, if_neg (by decide : ¬ maW = shW), if_neg (by decide : ¬ maW = stW), tell_none, tell_none] at hst
      cases hdg : digits c with
      | none =>
        rw [hdg] at hst t1
        simp only [Option.map_none, tell_none] at hst t1
        refine vcallS_intro0 rfl (T ⟨#[109, 97, 120, 45, 97, 103, 101, 61]⟩ none (by rw [show sb ⟨#[109, 97, 120, 45, 97, 103, 101, 61]⟩ = maW ++ [61] from rfl, t1])) (f1 (av rfl) (f1 (av rfl) f0)) ?_
        (conv => whnf)
        refine vcallS_intro0 rfl (T ⟨#[115, 45, 109, 97, 120, 97, 103, 101, 61]⟩ none (by rw [show sb ⟨#[115, 45, 109, 97, 120, 97, 103, 101, 61]⟩ = shW ++ [61] from rfl, t2])) (f1 (av rfl) (f1 (av rfl) f0)) ?_
        (conv => whnf)
        refine vcallS_intro0 rfl (T ⟨#[109, 97, 120, 45, 115, 116, 97, 108, 101, 61]⟩ none (by rw [show sb ⟨#[109, 97, 120, 45, 115, 116, 97, 108, 101, 61]⟩ = stW ++ [61] from rfl, t3])) (f1 (av rfl) (f1 (av rfl) f0)) ?_
        (conv => whnf)
        refine brm_eq (fun h => absurd h q1) (fun _ => ?_) <;> (conv => whnf)
        refine brm_eq (fun h => absurd h q2) (fun _ => ?_) <;> (conv => whnf)
        refine brm_eq (fun h => absurd h q3) (fun _ => ?_) <;> (conv => whnf)
        refine brm_eq (fun h => absurd h q4) (fun _ => ?_) <;> (conv => whnf)
        refine brm_eq (fun h => absurd h q5) (fun _ => ?_) <;> (conv => whnf)
        exact ⟨(i + 1, ⟨ma, sh, st, ns, nc, pr, mu⟩), ⟨⟨.inr rfl, .inr rfl, .inr rfl, .inr (vint_eq hw), trivial⟩, ⟨⟨.inr rfl, .inr rfl, .inr rfl, .inr rfl, .inr rfl, .inr rfl, .inr rfl, trivial⟩, ⟨.inr rfl, .inr rfl, .inr rfl, .inr rfl, .inr rfl, .inr rfl, .inr rfl, trivial⟩, trivial⟩⟩, ⟨hi, by rw [hst] at k2; exact k2⟩, by simp only; omega⟩
      | some v =>
        rw [hdg] at hst t1
        simp only [Option.map_some] at hst t1
        refine vcallS_intro0 rfl (T ⟨#[109, 97, 120, 45, 97, 103, 101, 61]⟩ (some (min secM v)) (by rw [show sb ⟨#[109, 97, 120, 45, 97, 103, 101, 61]⟩ = maW ++ [61] from rfl, t1])) (f1 (av rfl) (f1 (av rfl) f0)) ?_
        (conv => whnf)
        refine brm_p (fun h5 => ?_) (fun h5 => ?_) <;> (conv => whnf)
        · rw [show tell ma (some (min secM v)) = (min secM v) by unfold tell; first | (rw [if_pos h5]; rfl) | rw [if_neg h5]] at hst
          refine vcallS_intro0 rfl (T ⟨#[115, 45, 109, 97, 120, 97, 103, 101, 61]⟩ none (by rw [show sb ⟨#[115, 45, 109, 97, 120, 97, 103, 101, 61]⟩ = shW ++ [61] from rfl, t2])) (f1 (av rfl) (f1 (av rfl) f0)) ?_
          (conv => whnf)
          refine vcallS_intro0 rfl (T ⟨#[109, 97, 120, 45, 115, 116, 97, 108, 101, 61]⟩ none (by rw [show sb ⟨#[109, 97, 120, 45, 115, 116, 97, 108, 101, 61]⟩ = stW ++ [61] from rfl, t3])) (f1 (av rfl) (f1 (av rfl) f0)) ?_
          (conv => whnf)
          refine brm_eq (fun h => absurd h q1) (fun _ => ?_) <;> (conv => whnf)
          refine brm_eq (fun h => absurd h q2) (fun _ => ?_) <;> (conv => whnf)
          refine brm_eq (fun h => absurd h q3) (fun _ => ?_) <;> (conv => whnf)
          refine brm_eq (fun h => absurd h q4) (fun _ => ?_) <;> (conv => whnf)
          refine brm_eq (fun h => absurd h q5) (fun _ => ?_) <;> (conv => whnf)
          exact ⟨(i + 1, ⟨(min secM v), sh, st, ns, nc, pr, mu⟩), ⟨⟨.inr rfl, .inr rfl, .inr rfl, .inr (vint_eq hw), trivial⟩, ⟨⟨.inr rfl, .inr rfl, .inr rfl, .inr rfl, .inr rfl, .inr rfl, .inr rfl, trivial⟩, ⟨.inr rfl, .inr rfl, .inr rfl, .inr rfl, .inr rfl, .inr rfl, .inr rfl, trivial⟩, trivial⟩⟩, ⟨hi, by rw [hst] at k2; exact k2⟩, by simp only; omega⟩
        · rw [show tell ma (some (min secM v)) = ma by unfold tell; first | (rw [if_pos h5]; rfl) | rw [if_neg h5]] at hst
          refine vcallS_intro0 rfl (T ⟨#[115, 45, 109, 97, 120, 97, 103, 101, 61]⟩ none (by rw [show sb ⟨#[115, 45, 109, 97, 120, 97, 103, 101, 61]⟩ = shW ++ [61] from rfl, t2])) (f1 (av rfl) (f1 (av rfl) f0)) ?_
          (conv => whnf)
          refine vcallS_intro0 rfl (T ⟨#[109, 97, 120, 45, 115, 116, 97, 108, 101, 61]⟩ none (by rw [show sb ⟨#[109, 97, 120, 45, 115, 116, 97, 108, 101, 61]⟩ = stW ++ [61] from rfl, t3])) (f1 (av rfl) (f1 (av rfl) f0)) ?_
          (conv => whnf)
          refine brm_eq (fun h => absurd h q1) (fun _ => ?_) <;> (conv => whnf)
          refine brm_eq (fun h => absurd h q2) (fun _ => ?_) <;> (conv => whnf)
          refine brm_eq (fun h => absurd h q3) (fun _ => ?_) <;> (conv => whnf)
          refine brm_eq (fun h => absurd h q4) (fun _ => ?_) <;> (conv => whnf)
          refine brm_eq (fun h => absurd h q5) (fun _ => ?_) <;> (conv => whnf)
          exact ⟨(i + 1, ⟨ma, sh, st, ns, nc, pr, mu⟩), ⟨⟨.inr rfl, .inr rfl, .inr rfl, .inr (vint_eq hw), trivial⟩, ⟨⟨.inr rfl, .inr rfl, .inr rfl, .inr rfl, .inr rfl, .inr rfl, .inr rfl, trivial⟩, ⟨.inr rfl, .inr rfl, .inr rfl, .inr rfl, .inr rfl, .inr rfl, .inr rfl, trivial⟩, trivial⟩⟩, ⟨hi, by rw [hst] at k2; exact k2⟩, by simp only; omega⟩
    by_cases e2 : nm = shW
    · subst e2
      rw [if_pos rfl] at t2; rw [if_neg (by decide)] at t1 t3; rw [if_pos rfl, if_neg (by decide : ¬ shW = maW), if_neg (by decide : ¬ shW = stW), tell_none, tell_none] at hst
      cases hdg : digits c with
      | none =>
        rw [hdg] at hst t2
        simp only [Option.map_none, tell_none] at hst t2
        refine vcallS_intro0 rfl (T ⟨#[109, 97, 120, 45, 97, 103, 101, 61]⟩ none (by rw [show sb ⟨#[109, 97, 120, 45, 97, 103, 101, 61]⟩ = maW ++ [61] from rfl, t1])) (f1 (av rfl) (f1 (av rfl) f0)) ?_
        (conv => whnf)
        refine vcallS_intro0 rfl (T ⟨#[115, 45, 109, 97, 120, 97, 103, 101, 61]⟩ none (by rw [show sb ⟨#[115, 45, 109, 97, 120, 97, 103, 101, 61]⟩ = shW ++ [61] from rfl, t2])) (f1 (av rfl) (f1 (av rfl) f0)) ?_
        (conv => whnf)
        refine vcallS_intro0 rfl (T ⟨#[109, 97, 120, 45, 115, 116, 97, 108, 101, 61]⟩ none (by rw [show sb ⟨#[109, 97, 120, 45, 115, 116, 97, 108, 101, 61]⟩ = stW ++ [61] from rfl, t3])) (f1 (av rfl) (f1 (av rfl) f0)) ?_
        (conv => whnf)
        refine brm_eq (fun h => absurd h q1) (fun _ => ?_) <;> (conv => whnf)
        refine brm_eq (fun h => absurd h q2) (fun _ => ?_) <;> (conv => whnf)
        refine brm_eq (fun h => absurd h q3) (fun _ => ?_) <;> (conv => whnf)
        refine brm_eq (fun h => absurd h q4) (fun _ => ?_) <;> (conv => whnf)
        refine brm_eq (fun h => absurd h q5) (fun _ => ?_) <;> (conv => whnf)
        exact ⟨(i + 1, ⟨ma, sh, st, ns, nc, pr, mu⟩), ⟨⟨.inr rfl, .inr rfl, .inr rfl, .inr (vint_eq hw), trivial⟩, ⟨⟨.inr rfl, .inr rfl, .inr rfl, .inr rfl, .inr rfl, .inr rfl, .inr rfl, trivial⟩, ⟨.inr rfl, .inr rfl, .inr rfl, .inr rfl, .inr rfl, .inr rfl, .inr rfl, trivial⟩, trivial⟩⟩, ⟨hi, by rw [hst] at k2; exact k2⟩, by simp only; omega⟩
      | some v =>
        rw [hdg] at hst t2
        simp only [Option.map_some] at hst t2
        refine vcallS_intro0 rfl (T ⟨#[109, 97, 120, 45, 97, 103, 101, 61]⟩ none (by rw [show sb ⟨#[109, 97, 120, 45, 97, 103, 101, 61]⟩ = maW ++ [61] from rfl, t1])) (f1 (av rfl) (f1 (av rfl) f0)) ?_
        (conv => whnf)
        refine vcallS_intro0 rfl (T ⟨#[115, 45, 109, 97, 120, 97, 103, 101, 61]⟩ (some (min secM v)) (by rw [show sb ⟨#[115, 45, 109, 97, 120, 97, 103, 101, 61]⟩ = shW ++ [61] from rfl, t2])) (f1 (av rfl) (f1 (av rfl) f0)) ?_
        (conv => whnf)
        refine brm_p (fun h5 => ?_) (fun h5 => ?_) <;> (conv => whnf)
        · rw [show tell sh (some (min secM v)) = (min secM v) by unfold tell; first | (rw [if_pos h5]; rfl) | rw [if_neg h5]] at hst
          refine vcallS_intro0 rfl (T ⟨#[109, 97, 120, 45, 115, 116, 97, 108, 101, 61]⟩ none (by rw [show sb ⟨#[109, 97, 120, 45, 115, 116, 97, 108, 101, 61]⟩ = stW ++ [61] from rfl, t3])) (f1 (av rfl) (f1 (av rfl) f0)) ?_
          (conv => whnf)
          refine brm_eq (fun h => absurd h q1) (fun _ => ?_) <;> (conv => whnf)
          refine brm_eq (fun h => absurd h q2) (fun _ => ?_) <;> (conv => whnf)
          refine brm_eq (fun h => absurd h q3) (fun _ => ?_) <;> (conv => whnf)
          refine brm_eq (fun h => absurd h q4) (fun _ => ?_) <;> (conv => whnf)
          refine brm_eq (fun h => absurd h q5) (fun _ => ?_) <;> (conv => whnf)
          exact ⟨(i + 1, ⟨ma, (min secM v), st, ns, nc, pr, mu⟩), ⟨⟨.inr rfl, .inr rfl, .inr rfl, .inr (vint_eq hw), trivial⟩, ⟨⟨.inr rfl, .inr rfl, .inr rfl, .inr rfl, .inr rfl, .inr rfl, .inr rfl, trivial⟩, ⟨.inr rfl, .inr rfl, .inr rfl, .inr rfl, .inr rfl, .inr rfl, .inr rfl, trivial⟩, trivial⟩⟩, ⟨hi, by rw [hst] at k2; exact k2⟩, by simp only; omega⟩
        · rw [show tell sh (some (min secM v)) = sh by unfold tell; first | (rw [if_pos h5]; rfl) | rw [if_neg h5]] at hst
          refine vcallS_intro0 rfl (T ⟨#[109, 97, 120, 45, 115, 116, 97, 108, 101, 61]⟩ none (by rw [show sb ⟨#[109, 97, 120, 45, 115, 116, 97, 108, 101, 61]⟩ = stW ++ [61] from rfl, t3])) (f1 (av rfl) (f1 (av rfl) f0)) ?_
          (conv => whnf)
          refine brm_eq (fun h => absurd h q1) (fun _ => ?_) <;> (conv => whnf)
          refine brm_eq (fun h => absurd h q2) (fun _ => ?_) <;> (conv => whnf)
          refine brm_eq (fun h => absurd h q3) (fun _ => ?_) <;> (conv => whnf)
          refine brm_eq (fun h => absurd h q4) (fun _ => ?_) <;> (conv => whnf)
          refine brm_eq (fun h => absurd h q5) (fun _ => ?_) <;> (conv => whnf)
          exact ⟨(i + 1, ⟨ma, sh, st, ns, nc, pr, mu⟩), ⟨⟨.inr rfl, .inr rfl, .inr rfl, .inr (vint_eq hw), trivial⟩, ⟨⟨.inr rfl, .inr rfl, .inr rfl, .inr rfl, .inr rfl, .inr rfl, .inr rfl, trivial⟩, ⟨.inr rfl, .inr rfl, .inr rfl, .inr rfl, .inr rfl, .inr rfl, .inr rfl, trivial⟩, trivial⟩⟩, ⟨hi, by rw [hst] at k2; exact k2⟩, by simp only; omega⟩
    by_cases e3 : nm = stW
    · subst e3
      rw [if_pos rfl] at t3; rw [if_neg (by decide)] at t1 t2; rw [if_pos rfl, if_neg (by decide : ¬ stW = maW), if_neg (by decide : ¬ stW = shW), tell_none, tell_none] at hst
      cases hdg : digits c with
      | none =>
        rw [hdg] at hst t3
        simp only [Option.map_none, tell_none] at hst t3
        refine vcallS_intro0 rfl (T ⟨#[109, 97, 120, 45, 97, 103, 101, 61]⟩ none (by rw [show sb ⟨#[109, 97, 120, 45, 97, 103, 101, 61]⟩ = maW ++ [61] from rfl, t1])) (f1 (av rfl) (f1 (av rfl) f0)) ?_
        (conv => whnf)
        refine vcallS_intro0 rfl (T ⟨#[115, 45, 109, 97, 120, 97, 103, 101, 61]⟩ none (by rw [show sb ⟨#[115, 45, 109, 97, 120, 97, 103, 101, 61]⟩ = shW ++ [61] from rfl, t2])) (f1 (av rfl) (f1 (av rfl) f0)) ?_
        (conv => whnf)
        refine vcallS_intro0 rfl (T ⟨#[109, 97, 120, 45, 115, 116, 97, 108, 101, 61]⟩ none (by rw [show sb ⟨#[109, 97, 120, 45, 115, 116, 97, 108, 101, 61]⟩ = stW ++ [61] from rfl, t3])) (f1 (av rfl) (f1 (av rfl) f0)) ?_
        (conv => whnf)
        refine brm_eq (fun h => absurd h q1) (fun _ => ?_) <;> (conv => whnf)
        refine brm_eq (fun h => absurd h q2) (fun _ => ?_) <;> (conv => whnf)
        refine brm_eq (fun h => absurd h q3) (fun _ => ?_) <;> (conv => whnf)
        refine brm_eq (fun h => absurd h q4) (fun _ => ?_) <;> (conv => whnf)
        refine brm_eq (fun h => absurd h q5) (fun _ => ?_) <;> (conv => whnf)
        exact ⟨(i + 1, ⟨ma, sh, st, ns, nc, pr, mu⟩), ⟨⟨.inr rfl, .inr rfl, .inr rfl, .inr (vint_eq hw), trivial⟩, ⟨⟨.inr rfl, .inr rfl, .inr rfl, .inr rfl, .inr rfl, .inr rfl, .inr rfl, trivial⟩, ⟨.inr rfl, .inr rfl, .inr rfl, .inr rfl, .inr rfl, .inr rfl, .inr rfl, trivial⟩, trivial⟩⟩, ⟨hi, by rw [hst] at k2; exact k2⟩, by simp only; omega⟩
      | some v =>
        rw [hdg] at hst t3
        simp only [Option.map_some] at hst t3
        refine vcallS_intro0 rfl (T ⟨#[109, 97, 120, 45, 97, 103, 101, 61]⟩ none (by rw [show sb ⟨#[109, 97, 120, 45, 97, 103, 101, 61]⟩ = maW ++ [61] from rfl, t1])) (f1 (av rfl) (f1 (av rfl) f0)) ?_
        (conv => whnf)
        refine vcallS_intro0 rfl (T ⟨#[115, 45, 109, 97, 120, 97, 103, 101, 61]⟩ none (by rw [show sb ⟨#[115, 45, 109, 97, 120, 97, 103, 101, 61]⟩ = shW ++ [61] from rfl, t2])) (f1 (av rfl) (f1 (av rfl) f0)) ?_
        (conv => whnf)
        refine vcallS_intro0 rfl (T ⟨#[109, 97, 120, 45, 115, 116, 97, 108, 101, 61]⟩ (some (min secM v)) (by rw [show sb ⟨#[109, 97, 120, 45, 115, 116, 97, 108, 101, 61]⟩ = stW ++ [61] from rfl, t3])) (f1 (av rfl) (f1 (av rfl) f0)) ?_
        (conv => whnf)
        refine brm_p (fun h5 => ?_) (fun h5 => ?_) <;> (conv => whnf)
        · rw [show tell st (some (min secM v)) = (min secM v) by unfold tell; first | (rw [if_pos h5]; rfl) | rw [if_neg h5]] at hst
          refine brm_eq (fun h => absurd h q1) (fun _ => ?_) <;> (conv => whnf)
          refine brm_eq (fun h => absurd h q2) (fun _ => ?_) <;> (conv => whnf)
          refine brm_eq (fun h => absurd h q3) (fun _ => ?_) <;> (conv => whnf)
          refine brm_eq (fun h => absurd h q4) (fun _ => ?_) <;> (conv => whnf)
          refine brm_eq (fun h => absurd h q5) (fun _ => ?_) <;> (conv => whnf)
          exact ⟨(i + 1, ⟨ma, sh, (min secM v), ns, nc, pr, mu⟩), ⟨⟨.inr rfl, .inr rfl, .inr rfl, .inr (vint_eq hw), trivial⟩, ⟨⟨.inr rfl, .inr rfl, .inr rfl, .inr rfl, .inr rfl, .inr rfl, .inr rfl, trivial⟩, ⟨.inr rfl, .inr rfl, .inr rfl, .inr rfl, .inr rfl, .inr rfl, .inr rfl, trivial⟩, trivial⟩⟩, ⟨hi, by rw [hst] at k2; exact k2⟩, by simp only; omega⟩
        · rw [show tell st (some (min secM v)) = st by unfold tell; first | (rw [if_pos h5]; rfl) | rw [if_neg h5]] at hst
          refine brm_eq (fun h => absurd h q1) (fun _ => ?_) <;> (conv => whnf)
          refine brm_eq (fun h => absurd h q2) (fun _ => ?_) <;> (conv => whnf)
          refine brm_eq (fun h => absurd h q3) (fun _ => ?_) <;> (conv => whnf)
          refine brm_eq (fun h => absurd h q4) (fun _ => ?_) <;> (conv => whnf)
          refine brm_eq (fun h => absurd h q5) (fun _ => ?_) <;> (conv => whnf)
          exact ⟨(i + 1, ⟨ma, sh, st, ns, nc, pr, mu⟩), ⟨⟨.inr rfl, .inr rfl, .inr rfl, .inr (vint_eq hw), trivial⟩, ⟨⟨.inr rfl, .inr rfl, .inr rfl, .inr rfl, .inr rfl, .inr rfl, .inr rfl, trivial⟩, ⟨.inr rfl, .inr rfl, .inr rfl, .inr rfl, .inr rfl, .inr rfl, .inr rfl, trivial⟩, trivial⟩⟩, ⟨hi, by rw [hst] at k2; exact k2⟩, by simp only; omega⟩
    rw [if_neg e1] at t1; rw [if_neg e2] at t2; rw [if_neg e3] at t3; rw [if_neg e1, if_neg e2, if_neg e3, tell_none, tell_none, tell_none] at hst
    refine vcallS_intro0 rfl (T ⟨#[109, 97, 120, 45, 97, 103, 101, 61]⟩ none (by rw [show sb ⟨#[109, 97, 120, 45, 97, 103, 101, 61]⟩ = maW ++ [61] from rfl, t1])) (f1 (av rfl) (f1 (av rfl) f0)) ?_
    (conv => whnf)
    refine vcallS_intro0 rfl (T ⟨#[115, 45, 109, 97, 120, 97, 103, 101, 61]⟩ none (by rw [show sb ⟨#[115, 45, 109, 97, 120, 97, 103, 101, 61]⟩ = shW ++ [61] from rfl, t2])) (f1 (av rfl) (f1 (av rfl) f0)) ?_
    (conv => whnf)
    refine vcallS_intro0 rfl (T ⟨#[109, 97, 120, 45, 115, 116, 97, 108, 101, 61]⟩ none (by rw [show sb ⟨#[109, 97, 120, 45, 115, 116, 97, 108, 101, 61]⟩ = stW ++ [61] from rfl, t3])) (f1 (av rfl) (f1 (av rfl) f0)) ?_
    (conv => whnf)
    refine brm_eq (fun h => absurd h q1) (fun _ => ?_) <;> (conv => whnf)
    refine brm_eq (fun h => absurd h q2) (fun _ => ?_) <;> (conv => whnf)
    refine brm_eq (fun h => absurd h q3) (fun _ => ?_) <;> (conv => whnf)
    refine brm_eq (fun h => absurd h q4) (fun _ => ?_) <;> (conv => whnf)
    refine brm_eq (fun h => absurd h q5) (fun _ => ?_) <;> (conv => whnf)
    exact ⟨(i + 1, ⟨ma, sh, st, ns, nc, pr, mu⟩), ⟨⟨.inr rfl, .inr rfl, .inr rfl, .inr (vint_eq hw), trivial⟩, ⟨⟨.inr rfl, .inr rfl, .inr rfl, .inr rfl, .inr rfl, .inr rfl, .inr rfl, trivial⟩, ⟨.inr rfl, .inr rfl, .inr rfl, .inr rfl, .inr rfl, .inr rfl, .inr rfl, trivial⟩, trivial⟩⟩, ⟨hi, by rw [hst] at k2; exact k2⟩, by simp only; omega⟩
end Go.Proofs.YtfdmlccbfbiloaaGreatDoor
namespace Go.Proofs.YtfdmlccbfbiloaaGreatDoor
open Go Go.Proofs.YtfdmlccbfbiloaaGreatDoor.Vs
variable [Gl]
set_option linter.unusedSectionVars false

def cellsC (ma sh st : Int) (ns nc pr mu : Bool) : List V := [.val (.int .i64 ma), .val (.int .i64 sh), .val (.int .i64 st), .val (.bool ns), .val (.bool nc), .val (.bool pr), .val (.bool mu)]
theorem tell_some (a v : Int) : tell a (some (min secM v)) = if a < 0 then (if 1000000000 < v then 1000000000 else v) else a := by
  unfold tell secM
  split
  · simp only [Option.getD_some]; split <;> omega
  · rfl
theorem tell0_c (ma sh st : Int) (ns nc pr mu : Bool) (n : Int) : VCm Tryz.prog 141 [.p 0 0, .v (.val (.int .i64 n))] [cellsC ma sh st ns nc pr mu] (.tup []) [[], []] [cellsC (tell ma (some (min secM n))) sh st ns nc pr mu] := by
  refine VCm.intro0 hΘ Tryz.func141 rfl rfl Tryz.ntmps141 rfl rfl rfl fun B hB hs' hl => ?_
  obtain ⟨u0, u1, rfl⟩ : ∃ u0 u1, hs' = [u0, u1] := by
    match hs', hl with
    | [a, b], _ => exact ⟨a, b, rfl⟩
  rw [tell_some]
  (conv => whnf)
  refine brm_p (fun h => ?_) (fun h => ?_) <;> (conv => whnf)
  · refine ⟨?_, ⟨trivial, trivial, trivial⟩, ?_, trivial⟩
    · (conv => whnf)
      exact vfin_intro rfl
    · (conv => whnf)
      refine vbox_intro ?_
      rw [if_pos h]; rfl
  · refine ⟨?_, ⟨trivial, trivial, trivial⟩, ?_, trivial⟩
    · (conv => whnf)
      exact vfin_intro rfl
    · (conv => whnf)
      refine vbox_intro ?_
      rw [if_neg h]
theorem tell1_c (ma sh st : Int) (ns nc pr mu : Bool) (n : Int) : VCm Tryz.prog 141 [.p 0 1, .v (.val (.int .i64 n))] [cellsC ma sh st ns nc pr mu] (.tup []) [[], []] [cellsC ma (tell sh (some (min secM n))) st ns nc pr mu] := by
  refine VCm.intro0 hΘ Tryz.func141 rfl rfl Tryz.ntmps141 rfl rfl rfl fun B hB hs' hl => ?_
  obtain ⟨u0, u1, rfl⟩ : ∃ u0 u1, hs' = [u0, u1] := by
    match hs', hl with
    | [a, b], _ => exact ⟨a, b, rfl⟩
  rw [tell_some]
  (conv => whnf)
  refine brm_p (fun h => ?_) (fun h => ?_) <;> (conv => whnf)
  · refine ⟨?_, ⟨trivial, trivial, trivial⟩, ?_, trivial⟩
    · (conv => whnf)
      exact vfin_intro rfl
    · (conv => whnf)
      refine vbox_intro ?_
      rw [if_pos h]; rfl
  · refine ⟨?_, ⟨trivial, trivial, trivial⟩, ?_, trivial⟩
    · (conv => whnf)
      exact vfin_intro rfl
    · (conv => whnf)
      refine vbox_intro ?_
      rw [if_neg h]
theorem tell2_c (ma sh st : Int) (ns nc pr mu : Bool) (n : Int) : VCm Tryz.prog 141 [.p 0 2, .v (.val (.int .i64 n))] [cellsC ma sh st ns nc pr mu] (.tup []) [[], []] [cellsC ma sh (tell st (some (min secM n))) ns nc pr mu] := by
  refine VCm.intro0 hΘ Tryz.func141 rfl rfl Tryz.ntmps141 rfl rfl rfl fun B hB hs' hl => ?_
  obtain ⟨u0, u1, rfl⟩ : ∃ u0 u1, hs' = [u0, u1] := by
    match hs', hl with
    | [a, b], _ => exact ⟨a, b, rfl⟩
  rw [tell_some]
  (conv => whnf)
  refine brm_p (fun h => ?_) (fun h => ?_) <;> (conv => whnf)
  · refine ⟨?_, ⟨trivial, trivial, trivial⟩, ?_, trivial⟩
    · (conv => whnf)
      exact vfin_intro rfl
    · (conv => whnf)
      refine vbox_intro ?_
      rw [if_pos h]; rfl
  · refine ⟨?_, ⟨trivial, trivial, trivial⟩, ?_, trivial⟩
    · (conv => whnf)
      exact vfin_intro rfl
    · (conv => whnf)
      refine vbox_intro ?_
      rw [if_neg h]
set_option maxRecDepth 100000 in
set_option maxHeartbeats 4000000 in
theorem readControlI_c (s : ByteArray) (hs : (sb s).length ≤ 140737488355328) : VC Tryz.prog 112 [.val (.string s)] (ctl (sb s)).v := by
  refine VC.intro hΘ Tryz.func112 rfl rfl Tryz.ntmps112 rfl rfl rfl fun B hB => ?_
  (conv => whnf)
  refine vcallS_intro0 rfl (itemsI_c s hs) (f1 (av rfl) f0) ?_
  (conv => whnf)
  have hcnt := itemsB_cnt (sb s)
  have hlen : ∀ x ∈ itemsB (sb s), (sb x).length ≤ 140737488355328 := fun x hx => Nat.le_trans (itemsB_len hx) (by decide)
  unfold ctl
  generalize itemsB (sb s) = L at hcnt hlen ⊢
  refine vloop_intro hΘ hB (ι := Nat × Ctl) (fun p => ⟨[(2, .ptr 2 0), (3, .ptr 3 0), (4, .val (fnV 141)), (14, .own 1 (L.map strC)), (15, .val (.int .i64 (L.map strC).length)), (16, .val (.int .i64 p.1))], [(2, [.val (.int .i64 0), .val (.int .i64 0), .val (.int .i64 0), .val (.bool false), .val (.bool false), .val (.bool false), .val (.bool false)]), (3, p.2.cs)]⟩) (fun p => p.1 ≤ L.length ∧ ctlL p.2 (L.drop p.1) = ctlL Ctl.z L) (fun p => L.length - p.1) (0, Ctl.z)
    ⟨⟨.inr rfl, .inr rfl, .inr rfl, .inr rfl, .inr rfl, .inr rfl, trivial⟩, ⟨⟨.inr rfl, .inr rfl, .inr rfl, .inr rfl, .inr rfl, .inr rfl, .inr rfl, trivial⟩, ⟨.inr rfl, .inr rfl, .inr rfl, .inr rfl, .inr rfl, .inr rfl, .inr rfl, trivial⟩, trivial⟩⟩ ⟨Nat.zero_le _, rfl⟩ ?_
  rintro ⟨i, ma, sh, st, ns, nc, pr, mu⟩ ⟨k1, k2⟩
  simp only at k1 k2
  (conv => whnf)
  rw [List.length_map]
  refine brm_p (fun h => ?_) (fun h => ?_) <;> (conv => whnf)
  rotate_left
  · have : L.drop i = [] := List.drop_eq_nil_of_le (by omega)
    rw [this] at k2
    rw [← k2]
    exact vfin_agg rfl
  have hi : i < L.length := by omega
  obtain ⟨x0, hg, hm, hd⟩ := drop_at (xs := L) hi
  rw [hd] at k2
  have k2 : ctlL (ctlStep ⟨ma, sh, st, ns, nc, pr, mu⟩ (lower (sb x0))) (L.drop (i + 1)) = ctlL Ctl.z L := k2
  have hx := hlen x0 hm
  have hw := wrap_succ (i := i) (by omega)
  refine vix_intro i rfl (by rw [List.length_map]; omega) ?_
  (conv => whnf)
  refine vat_intro i _ rfl (strs_at hg) ?_
  (conv => whnf)
  have hxl : (lower (sb x0)).length ≤ 140737488355328 := by unfold lower; rw [List.length_map]; exact hx
  refine call_l rfl (lowerI_c x0 hx) (f1 (av rfl) f0) fun x hxe => ?_
  rw [← hxe] at k2 hxl
  clear hxe
  (conv => whnf)
  have cc := cut_c (bs x) hxl
  rw [sb_bs] at cc
  unfold cutV at cc
  cases hc : cutR x with
  | none =>
    rw [hc] at cc
    have hst := step_word ⟨ma, sh, st, ns, nc, pr, mu⟩ hc
    simp only at hst
    refine vcallS_intro0 rfl cc (f1 (av rfl) (f1 (av rfl) f0)) ?_
    (conv => whnf)
    refine vcallS_intro0 rfl (digitsI_c ⟨⟨[]⟩⟩ (by decide)) (f1 (av rfl) f0) ?_
    (conv => whnf)
    refine brm_eq (fun h1 => ?_) (fun h1 => ?_) <;> (conv => whnf)
    · have h1 : x = nsW := h1
      subst h1
      have hst : ctlStep ⟨ma, sh, st, ns, nc, pr, mu⟩ nsW = ⟨ma, sh, st, true, nc, pr, mu⟩ := by
        rw [hst, if_neg (by decide : ¬ nsW = stW), tell_none, show (nsW == nsW) = true by decide, show (nsW == ncW) = false by decide, show (nsW == prW) = false by decide, show (nsW == muW) = false by decide]
        simp
      exact ⟨(i + 1, ⟨ma, sh, st, true, nc, pr, mu⟩), ⟨⟨.inr rfl, .inr rfl, .inr rfl, .inr rfl, .inr rfl, .inr (vint_eq hw), trivial⟩, ⟨⟨.inr rfl, .inr rfl, .inr rfl, .inr rfl, .inr rfl, .inr rfl, .inr rfl, trivial⟩, ⟨.inr rfl, .inr rfl, .inr rfl, .inr rfl, .inr rfl, .inr rfl, .inr rfl, trivial⟩, trivial⟩⟩, ⟨hi, by rw [hst] at k2; exact k2⟩, by simp only; omega⟩
    have nnsW : (x == nsW) = false := beq_no h1
    refine brm_eq (fun h1 => ?_) (fun h1 => ?_) <;> (conv => whnf)
    · have h1 : x = ncW := h1
      subst h1
      have hst : ctlStep ⟨ma, sh, st, ns, nc, pr, mu⟩ ncW = ⟨ma, sh, st, ns, true, pr, mu⟩ := by
        rw [hst, if_neg (by decide : ¬ ncW = stW), tell_none, show (ncW == nsW) = false by decide, show (ncW == ncW) = true by decide, show (ncW == prW) = false by decide, show (ncW == muW) = false by decide]
        simp
      exact ⟨(i + 1, ⟨ma, sh, st, ns, true, pr, mu⟩), ⟨⟨.inr rfl, .inr rfl, .inr rfl, .inr rfl, .inr rfl, .inr (vint_eq hw), trivial⟩, ⟨⟨.inr rfl, .inr rfl, .inr rfl, .inr rfl, .inr rfl, .inr rfl, .inr rfl, trivial⟩, ⟨.inr rfl, .inr rfl, .inr rfl, .inr rfl, .inr rfl, .inr rfl, .inr rfl, trivial⟩, trivial⟩⟩, ⟨hi, by rw [hst] at k2; exact k2⟩, by simp only; omega⟩
    have nncW : (x == ncW) = false := beq_no h1
    refine brm_eq (fun h1 => ?_) (fun h1 => ?_) <;> (conv => whnf)
    · have h1 : x = prW := h1
      subst h1
      have hst : ctlStep ⟨ma, sh, st, ns, nc, pr, mu⟩ prW = ⟨ma, sh, st, ns, nc, true, mu⟩ := by
        rw [hst, if_neg (by decide : ¬ prW = stW), tell_none, show (prW == nsW) = false by decide, show (prW == ncW) = false by decide, show (prW == prW) = true by decide, show (prW == muW) = false by decide]
        simp
      exact ⟨(i + 1, ⟨ma, sh, st, ns, nc, true, mu⟩), ⟨⟨.inr rfl, .inr rfl, .inr rfl, .inr rfl, .inr rfl, .inr (vint_eq hw), trivial⟩, ⟨⟨.inr rfl, .inr rfl, .inr rfl, .inr rfl, .inr rfl, .inr rfl, .inr rfl, trivial⟩, ⟨.inr rfl, .inr rfl, .inr rfl, .inr rfl, .inr rfl, .inr rfl, .inr rfl, trivial⟩, trivial⟩⟩, ⟨hi, by rw [hst] at k2; exact k2⟩, by simp only; omega⟩
    have nprW : (x == prW) = false := beq_no h1
    refine brm_eq (fun h1 => ?_) (fun h1 => ?_) <;> (conv => whnf)
    · have h1 : x = muW := h1
      subst h1
      have hst : ctlStep ⟨ma, sh, st, ns, nc, pr, mu⟩ muW = ⟨ma, sh, st, ns, nc, pr, true⟩ := by
        rw [hst, if_neg (by decide : ¬ muW = stW), tell_none, show (muW == nsW) = false by decide, show (muW == ncW) = false by decide, show (muW == prW) = false by decide, show (muW == muW) = true by decide]
        simp
      exact ⟨(i + 1, ⟨ma, sh, st, ns, nc, pr, true⟩), ⟨⟨.inr rfl, .inr rfl, .inr rfl, .inr rfl, .inr rfl, .inr (vint_eq hw), trivial⟩, ⟨⟨.inr rfl, .inr rfl, .inr rfl, .inr rfl, .inr rfl, .inr rfl, .inr rfl, trivial⟩, ⟨.inr rfl, .inr rfl, .inr rfl, .inr rfl, .inr rfl, .inr rfl, .inr rfl, trivial⟩, trivial⟩⟩, ⟨hi, by rw [hst] at k2; exact k2⟩, by simp only; omega⟩
    have nmuW : (x == muW) = false := beq_no h1
    rw [nnsW, nncW, nprW, nmuW] at hst
    simp only [Bool.or_false] at hst
    refine brm_eq (fun h1 => ?_) (fun h1 => ?_) <;> (conv => whnf)
    · have h1 : x = stW := h1
      subst h1
      rw [if_pos rfl] at hst
      refine vcallS_introM (pb := [3]) rfl (tell2_c ma sh st ns nc pr mu 1000000000) ⟨rfl, ⟨rfl, av rfl, rfl⟩, trivial⟩ ⟨vbox_intro rfl, trivial⟩ rfl ?_
      (conv => whnf)
      exact ⟨(i + 1, ⟨ma, sh, tell st (some secM), ns, nc, pr, mu⟩), ⟨⟨.inr rfl, .inr rfl, .inr rfl, .inr rfl, .inr rfl, .inr (vint_eq hw), trivial⟩, ⟨⟨.inr rfl, .inr rfl, .inr rfl, .inr rfl, .inr rfl, .inr rfl, .inr rfl, trivial⟩, ⟨.inr rfl, .inr rfl, .inr rfl, .inr rfl, .inr rfl, .inr rfl, .inr rfl, trivial⟩, trivial⟩⟩, ⟨hi, by rw [hst] at k2; exact k2⟩, by simp only; omega⟩
    · have n1 : ¬ x = stW := h1
      rw [if_neg n1, tell_none] at hst
      exact ⟨(i + 1, ⟨ma, sh, st, ns, nc, pr, mu⟩), ⟨⟨.inr rfl, .inr rfl, .inr rfl, .inr rfl, .inr rfl, .inr (vint_eq hw), trivial⟩, ⟨⟨.inr rfl, .inr rfl, .inr rfl, .inr rfl, .inr rfl, .inr rfl, .inr rfl, trivial⟩, ⟨.inr rfl, .inr rfl, .inr rfl, .inr rfl, .inr rfl, .inr rfl, .inr rfl, trivial⟩, trivial⟩⟩, ⟨hi, by rw [hst] at k2; exact k2⟩, by simp only; omega⟩
  | some p =>
    obtain ⟨nm, c⟩ := p
    rw [hc] at cc
    have hcl : (sb (bs c)).length ≤ 140737488355328 := by
      have := (cutR_some hc).1
      have h2 : x.length = nm.length + (c.length + 1) := by rw [this]; simp
      rw [sb_bs]
      omega
    have hst := step_cut ⟨ma, sh, st, ns, nc, pr, mu⟩ hc
    simp only at hst
    have q1 : ¬ x = stW := ne_word hc (by decide)
    have q2 : ¬ x = nsW := ne_word hc (by decide)
    have q3 : ¬ x = ncW := ne_word hc (by decide)
    have q4 : ¬ x = prW := ne_word hc (by decide)
    have q5 : ¬ x = muW := ne_word hc (by decide)
    refine vcallS_intro0 rfl cc (f1 (av rfl) (f1 (av rfl) f0)) ?_
    (conv => whnf)
    have cd := digitsI_c (bs c) hcl
    rw [sb_bs] at cd
    unfold digV at cd
    cases hdg : digits c with
    | none =>
      rw [hdg] at hst cd
      simp only [Option.map_none, ite_self, tell_none] at hst
      refine vcallS_intro0 rfl cd (f1 (av rfl) f0) ?_
      (conv => whnf)
      refine brm_eq (fun h => absurd h q2) (fun _ => ?_) <;> (conv => whnf)
      refine brm_eq (fun h => absurd h q3) (fun _ => ?_) <;> (conv => whnf)
      refine brm_eq (fun h => absurd h q4) (fun _ => ?_) <;> (conv => whnf)
      refine brm_eq (fun h => absurd h q5) (fun _ => ?_) <;> (conv => whnf)
      refine brm_eq (fun h => absurd h q1) (fun _ => ?_) <;> (conv => whnf)
      exact ⟨(i + 1, ⟨ma, sh, st, ns, nc, pr, mu⟩), ⟨⟨.inr rfl, .inr rfl, .inr rfl, .inr rfl, .inr rfl, .inr (vint_eq hw), trivial⟩, ⟨⟨.inr rfl, .inr rfl, .inr rfl, .inr rfl, .inr rfl, .inr rfl, .inr rfl, trivial⟩, ⟨.inr rfl, .inr rfl, .inr rfl, .inr rfl, .inr rfl, .inr rfl, .inr rfl, trivial⟩, trivial⟩⟩, ⟨hi, by rw [hst] at k2; exact k2⟩, by simp only; omega⟩
    | some v =>
      rw [hdg] at hst cd
      simp only [Option.map_some] at hst
      refine vcallS_intro0 rfl cd (f1 (av rfl) f0) ?_
      (conv => whnf)
      refine brm_eq (fun h => absurd h q2) (fun _ => ?_) <;> (conv => whnf)
      refine brm_eq (fun h => absurd h q3) (fun _ => ?_) <;> (conv => whnf)
      refine brm_eq (fun h => absurd h q4) (fun _ => ?_) <;> (conv => whnf)
      refine brm_eq (fun h => absurd h q5) (fun _ => ?_) <;> (conv => whnf)
      refine brm_eq (fun h => absurd h q1) (fun _ => ?_) <;> (conv => whnf)
      refine brm_eq (fun e1 => ?_) (fun e1 => ?_) <;> (conv => whnf)
      · have e1 : nm = maW := e1
        subst e1
        rw [if_pos rfl, if_neg (by decide : ¬ maW = shW), if_neg (by decide : ¬ maW = stW), tell_none, tell_none] at hst
        refine vcallS_introM (pb := [3]) rfl (tell0_c ma sh st ns nc pr mu v) ⟨rfl, ⟨rfl, av rfl, rfl⟩, trivial⟩ ⟨vbox_intro rfl, trivial⟩ rfl ?_
        (conv => whnf)
        exact ⟨(i + 1, ⟨tell ma (some (min secM v)), sh, st, ns, nc, pr, mu⟩), ⟨⟨.inr rfl, .inr rfl, .inr rfl, .inr rfl, .inr rfl, .inr (vint_eq hw), trivial⟩, ⟨⟨.inr rfl, .inr rfl, .inr rfl, .inr rfl, .inr rfl, .inr rfl, .inr rfl, trivial⟩, ⟨.inr rfl, .inr rfl, .inr rfl, .inr rfl, .inr rfl, .inr rfl, .inr rfl, trivial⟩, trivial⟩⟩, ⟨hi, by rw [hst] at k2; exact k2⟩, by simp only; omega⟩
      have e1 : ¬ nm = maW := e1
      refine brm_eq (fun e2 => ?_) (fun e2 => ?_) <;> (conv => whnf)
      · have e2 : nm = shW := e2
        subst e2
        rw [if_pos rfl, if_neg (by decide : ¬ shW = maW), if_neg (by decide : ¬ shW = stW), tell_none, tell_none] at hst
        refine vcallS_introM (pb := [3]) rfl (tell1_c ma sh st ns nc pr mu v) ⟨rfl, ⟨rfl, av rfl, rfl⟩, trivial⟩ ⟨vbox_intro rfl, trivial⟩ rfl ?_
        (conv => whnf)
        exact ⟨(i + 1, ⟨ma, tell sh (some (min secM v)), st, ns, nc, pr, mu⟩), ⟨⟨.inr rfl, .inr rfl, .inr rfl, .inr rfl, .inr rfl, .inr (vint_eq hw), trivial⟩, ⟨⟨.inr rfl, .inr rfl, .inr rfl, .inr rfl, .inr rfl, .inr rfl, .inr rfl, trivial⟩, ⟨.inr rfl, .inr rfl, .inr rfl, .inr rfl, .inr rfl, .inr rfl, .inr rfl, trivial⟩, trivial⟩⟩, ⟨hi, by rw [hst] at k2; exact k2⟩, by simp only; omega⟩
      have e2 : ¬ nm = shW := e2
      refine brm_eq (fun e3 => ?_) (fun e3 => ?_) <;> (conv => whnf)
      · have e3 : nm = stW := e3
        subst e3
        rw [if_pos rfl, if_neg (by decide : ¬ stW = maW), if_neg (by decide : ¬ stW = shW), tell_none, tell_none] at hst
        refine vcallS_introM (pb := [3]) rfl (tell2_c ma sh st ns nc pr mu v) ⟨rfl, ⟨rfl, av rfl, rfl⟩, trivial⟩ ⟨vbox_intro rfl, trivial⟩ rfl ?_
        (conv => whnf)
        exact ⟨(i + 1, ⟨ma, sh, tell st (some (min secM v)), ns, nc, pr, mu⟩), ⟨⟨.inr rfl, .inr rfl, .inr rfl, .inr rfl, .inr rfl, .inr (vint_eq hw), trivial⟩, ⟨⟨.inr rfl, .inr rfl, .inr rfl, .inr rfl, .inr rfl, .inr rfl, .inr rfl, trivial⟩, ⟨.inr rfl, .inr rfl, .inr rfl, .inr rfl, .inr rfl, .inr rfl, .inr rfl, trivial⟩, trivial⟩⟩, ⟨hi, by rw [hst] at k2; exact k2⟩, by simp only; omega⟩
      have e3 : ¬ nm = stW := e3
      rw [if_neg e1, if_neg e2, if_neg e3, tell_none, tell_none, tell_none] at hst
      exact ⟨(i + 1, ⟨ma, sh, st, ns, nc, pr, mu⟩), ⟨⟨.inr rfl, .inr rfl, .inr rfl, .inr rfl, .inr rfl, .inr (vint_eq hw), trivial⟩, ⟨⟨.inr rfl, .inr rfl, .inr rfl, .inr rfl, .inr rfl, .inr rfl, .inr rfl, trivial⟩, ⟨.inr rfl, .inr rfl, .inr rfl, .inr rfl, .inr rfl, .inr rfl, .inr rfl, trivial⟩, trivial⟩⟩, ⟨hi, by rw [hst] at k2; exact k2⟩, by simp only; omega⟩
end Go.Proofs.YtfdmlccbfbiloaaGreatDoor
namespace Go.Proofs.YtfdmlccbfbiloaaGreatDoor
open Go Go.Proofs.YtfdmlccbfbiloaaGreatDoor.Vs
variable [Gl]
set_option linter.unusedSectionVars false

/-! #### fields by name -/
def ccN : ByteArray := ⟨#[99, 97, 99, 104, 101, 45, 99, 111, 110, 116, 114, 111, 108]⟩
def etN : ByteArray := ⟨#[101, 116, 97, 103]⟩
def exN : ByteArray := ⟨#[101, 120, 112, 105, 114, 101, 115]⟩
def auN : ByteArray := ⟨#[97, 117, 116, 104, 111, 114, 105, 122, 97, 116, 105, 111, 110]⟩
def fieldT (n : ByteArray) (xs : List Fd) : List UInt8 := Lib.join (hitsOf n xs) comma
theorem fieldT_len {n : ByteArray} {xs : List Fd} (h : fieldsOk xs = true) : (fieldT n xs).length ≤ 140737488355328 := by
  refine Nat.le_trans (join_len (hits_short h)) ?_
  have h1 := fieldsOk_len h
  have h2 := hitsB_len n xs
  rw [← hitsB_of, List.length_map]
  omega
def ctlF (xs : List Fd) : Ctl := ctl (fieldT ccN xs)
theorem getF_eq {n : ByteArray} {xs : List Fd} : getV xs n = .tup [.val (.string (bs (fieldT n xs))), .val (.bool (hasF n xs))] := rfl
theorem controlS_c (xs : List Fd) (hx : ∀ x ∈ xs, szOk x) (hok : fieldsOk xs = true) : VC Tryz.prog 65 [rdF xs] (ctlF xs).v := by
  have c1 := l4Get_c xs ccN hx (by decide) (fieldsOk_len hok)
  rw [getF_eq] at c1
  have hl := fieldT_len (n := ccN) hok
  unfold ctlF
  generalize fieldT ccN xs = J at c1 hl ⊢
  have c2 := readControlS_c (bs J) (by rw [sb_bs]; exact hl)
  rw [sb_bs] at c2
  refine VC.intro hΘ Tryz.func65 rfl rfl Tryz.ntmps65 rfl rfl rfl fun B hB => ?_
  (conv => whnf)
  refine vcallS_intro0 rfl c1 (f1 (ar rfl rfl) (f1 (av rfl) f0)) ?_
  (conv => whnf)
  refine vcallS_intro0 rfl c2 (f1 (av rfl) f0) ?_
  (conv => whnf)
  exact vfin_agg rfl
theorem controlI_c (xs : List Fd) (hx : ∀ x ∈ xs, szOk x) (hok : fieldsOk xs = true) : VC Tryz.prog 71 [rdF xs] (ctlF xs).v := by
  have c1 := getI_c xs ccN hx (by decide) hok
  rw [getF_eq] at c1
  have hl := fieldT_len (n := ccN) hok
  unfold ctlF
  generalize fieldT ccN xs = J at c1 hl ⊢
  have c2 := readControlI_c (bs J) (by rw [sb_bs]; exact hl)
  rw [sb_bs] at c2
  refine VC.intro hΘ Tryz.func71 rfl rfl Tryz.ntmps71 rfl rfl rfl fun B hB => ?_
  (conv => whnf)
  refine vcallS_intro0 rfl c1 (f1 (ar rfl rfl) (f1 (av rfl) f0)) ?_
  (conv => whnf)
  refine vcallS_intro0 rfl c2 (f1 (av rfl) f0) ?_
  (conv => whnf)
  exact vfin_agg rfl
def tagB (xs : List Fd) : Bool := tgOk (fieldT etN xs)
theorem tagS_c (r : Rsp) (hx : ∀ x ∈ r.fs, szOk x) (hok : fieldsOk r.fs = true) : VC Tryz.prog 67 [r.rd] (.val (.bool (tagB r.fs))) := by
  have c1 := l4Get_c r.fs etN hx (by decide) (fieldsOk_len hok)
  rw [getF_eq] at c1
  have hl := fieldT_len (n := etN) hok
  unfold tagB
  generalize fieldT etN r.fs = J at c1 hl ⊢
  have c2 := readTagS_c (bs J) (by rw [sb_bs]; exact hl)
  rw [sb_bs] at c2
  unfold tgV at c2
  cases ht : tgOk J with
  | true =>
    rw [ht, if_pos rfl] at c2
    refine VC.intro hΘ Tryz.func67 rfl rfl Tryz.ntmps67 rfl rfl rfl fun B hB => ?_
    (conv => whnf)
    refine vcallS_intro0 rfl c1 (f1 (ar rfl rfl) (f1 (av rfl) f0)) ?_
    (conv => whnf)
    refine vcallS_intro0 rfl c2 (f1 (av rfl) f0) ?_
    (conv => whnf)
    exact vfin_bool rfl
  | false =>
    rw [ht, if_neg (by decide)] at c2
    refine VC.intro hΘ Tryz.func67 rfl rfl Tryz.ntmps67 rfl rfl rfl fun B hB => ?_
    (conv => whnf)
    refine vcallS_intro0 rfl c1 (f1 (ar rfl rfl) (f1 (av rfl) f0)) ?_
    (conv => whnf)
    refine vcallS_intro0 rfl c2 (f1 (av rfl) f0) ?_
    (conv => whnf)
    exact vfin_bool rfl
def tagV (xs : List Fd) : V := tgV (fieldT etN xs)
theorem tagI_c (r : Rsp) (hx : ∀ x ∈ r.fs, szOk x) (hok : fieldsOk r.fs = true) : VC Tryz.prog 72 [r.rd] (tagV r.fs) := by
  have c1 := getI_c r.fs etN hx (by decide) hok
  rw [getF_eq] at c1
  have hl := fieldT_len (n := etN) hok
  unfold tagV
  generalize fieldT etN r.fs = J at c1 hl ⊢
  have c2 := readTagI_c (bs J) (by rw [sb_bs]; exact hl)
  rw [sb_bs] at c2
  unfold tgV at c2 ⊢
  cases ht : tgOk J with
  | true =>
    rw [ht, if_pos rfl] at c2
    rw [if_pos rfl]
    refine VC.intro hΘ Tryz.func72 rfl rfl Tryz.ntmps72 rfl rfl rfl fun B hB => ?_
    (conv => whnf)
    refine vcallS_intro0 rfl c1 (f1 (ar rfl rfl) (f1 (av rfl) f0)) ?_
    (conv => whnf)
    refine vcallS_intro0 rfl c2 (f1 (av rfl) f0) ?_
    (conv => whnf)
    exact vfin_tup2 rfl rfl
  | false =>
    rw [ht, if_neg (by decide)] at c2
    rw [if_neg (by decide)]
    refine VC.intro hΘ Tryz.func72 rfl rfl Tryz.ntmps72 rfl rfl rfl fun B hB => ?_
    (conv => whnf)
    refine vcallS_intro0 rfl c1 (f1 (ar rfl rfl) (f1 (av rfl) f0)) ?_
    (conv => whnf)
    refine vcallS_intro0 rfl c2 (f1 (av rfl) f0) ?_
    (conv => whnf)
    exact vfin_tup2 rfl rfl
theorem hasI_c (xs : List Fd) (n : ByteArray) (hx : ∀ x ∈ xs, szOk x) (hn : (sb n).length ≤ 140737488355328) (hok : fieldsOk xs = true) : VC Tryz.prog 73 [rdF xs, .val (.string n)] (.val (.bool (hasF n xs))) := by
  have c1 := getI_c xs n hx hn hok
  rw [getF_eq] at c1
  generalize fieldT n xs = J at c1
  refine VC.intro hΘ Tryz.func73 rfl rfl Tryz.ntmps73 rfl rfl rfl fun B hB => ?_
  (conv => whnf)
  refine vcallS_intro0 rfl c1 (f1 (ar rfl rfl) (f1 (av rfl) f0)) ?_
  (conv => whnf)
  exact vfin_bool rfl

end Go.Proofs.YtfdmlccbfbiloaaGreatDoor
namespace Go.Proofs.YtfdmlccbfbiloaaGreatDoor
open Go Go.Proofs.YtfdmlccbfbiloaaGreatDoor.Vs
variable [Gl]
set_option linter.unusedSectionVars false

/-! #### the calendar, both -/
def Dt.cs (x : Dt) : List V := [.val (.int .i64 x.y), .val (.int .i64 x.mo), .val (.int .i64 x.d), .val (.int .i64 x.h), .val (.int .i64 x.mi), .val (.int .i64 x.s)]
theorem leapS_c (y : Int) : VC Tryz.prog 204 [.val (.int .i64 y)] (.val (.bool (leap y))) := by
  refine VC.intro hΘ Tryz.func204 rfl rfl Tryz.ntmps204 rfl rfl rfl fun B hB => ?_
  (conv => whnf)
  refine vreq_intro (by decide) ?_
  (conv => whnf)
  repeat' first
    | (refine brm_intro (fun _ => ?_) (fun _ => ?_) <;> (conv => whnf))
    | (refine vreq_intro (by decide) ?_; (conv => whnf))
  all_goals (refine vfin_bool ?_; unfold leap; simp_all)
theorem leapI_c (y : Int) : VC Tryz.prog 208 [.val (.int .i64 y)] (.val (.bool (leap y))) := by
  refine VC.intro hΘ Tryz.func208 rfl rfl Tryz.ntmps208 rfl rfl rfl fun B hB => ?_
  (conv => whnf)
  refine vreq_intro (by decide) ?_
  (conv => whnf)
  repeat' first
    | (refine brm_intro (fun _ => ?_) (fun _ => ?_) <;> (conv => whnf))
    | (refine vreq_intro (by decide) ?_; (conv => whnf))
  all_goals (refine vfin_bool ?_; unfold leap; simp_all)
theorem yearS_c (y : Int) (h1 : 1970 ≤ y) (h2 : y ≤ 9999) : VC Tryz.prog 185 [.val (.int .i64 y)] (.val (.int .i64 (ydays y))) := by
  refine VC.intro hΘ Tryz.func185 rfl rfl Tryz.ntmps185 rfl rfl rfl fun B hB => ?_
  have e1 : (y - 1).tdiv 4 = (y - 1) / 4 := Int.tdiv_eq_ediv_of_nonneg (by omega)
  have e2 : (y - 1).tdiv 100 = (y - 1) / 100 := Int.tdiv_eq_ediv_of_nonneg (by omega)
  have e3 : (y - 1).tdiv 400 = (y - 1) / 400 := Int.tdiv_eq_ediv_of_nonneg (by omega)
  have w0 : IntKind.i64.wrap (y - 1) = y - 1 := wrap_i64 (by omega) (by omega)
  (conv => whnf)
  refine vreq_intro (by decide) ?_
  (conv => whnf)
  refine vreq_intro (by decide) ?_
  (conv => whnf)
  refine vreq_intro (by decide) ?_
  (conv => whnf)
  refine vfin_int ?_
  unfold ydays
  rw [w0, e1, e2, e3]
  simp (disch := omega) only [wrap_i64]
theorem yearI_c (y : Int) (h1 : 1970 ≤ y) (h2 : y ≤ 9999) : VC Tryz.prog 190 [.val (.int .i64 y)] (.val (.int .i64 (ydays y))) := by
  refine VC.intro hΘ Tryz.func190 rfl rfl Tryz.ntmps190 rfl rfl rfl fun B hB => ?_
  have e1 : (y - 1).tdiv 4 = (y - 1) / 4 := Int.tdiv_eq_ediv_of_nonneg (by omega)
  have e2 : (y - 1).tdiv 100 = (y - 1) / 100 := Int.tdiv_eq_ediv_of_nonneg (by omega)
  have e3 : (y - 1).tdiv 400 = (y - 1) / 400 := Int.tdiv_eq_ediv_of_nonneg (by omega)
  have w0 : IntKind.i64.wrap (y - 1) = y - 1 := wrap_i64 (by omega) (by omega)
  (conv => whnf)
  refine vreq_intro (by decide) ?_
  (conv => whnf)
  refine vreq_intro (by decide) ?_
  (conv => whnf)
  refine vreq_intro (by decide) ?_
  (conv => whnf)
  refine vfin_int ?_
  unfold ydays
  rw [w0, e1, e2, e3]
  simp (disch := omega) only [wrap_i64]
theorem daysInI_c (y m : Int) : VC Tryz.prog 187 [.val (.int .i64 y), .val (.int .i64 m)] (.val (.int .i64 (mdays y m))) := by
  refine VC.intro hΘ Tryz.func187 rfl rfl Tryz.ntmps187 rfl rfl rfl fun B hB => ?_
  (conv => whnf)
  refine brm_eq (fun h => ?_) (fun h1 => ?_) <;> (conv => whnf)
  · refine brm_eq (fun _ => ?_) (fun h' => absurd h h') <;> (conv => whnf)
    exact vfin_int (by simp [mdays, h])
  refine brm_eq (fun h => ?_) (fun h2 => ?_) <;> (conv => whnf)
  · refine brm_eq (fun _ => ?_) (fun h' => absurd h h') <;> (conv => whnf)
    exact vfin_int (by simp [mdays, h])
  refine brm_eq (fun h => ?_) (fun h3 => ?_) <;> (conv => whnf)
  · refine brm_eq (fun _ => ?_) (fun h' => absurd h h') <;> (conv => whnf)
    exact vfin_int (by simp [mdays, h])
  refine brm_eq (fun h => ?_) (fun h4 => ?_) <;> (conv => whnf)
  · exact vfin_int (by simp [mdays, h])
  refine brm_eq (fun h5 => ?_) (fun h5 => ?_) <;> (conv => whnf)
  · refine call_bb rfl (leapI_c y) (f1 (av rfl) f0) (fun h => ?_) (fun h => ?_) <;> (conv => whnf)
    · exact vfin_int (by simp [mdays, h5, h])
    · exact vfin_int (by simp [mdays, h5, h])
  · exact vfin_int (by simp [mdays, h1, h2, h3, h4, h5])
def mL : List Int := [31, 28, 31, 30, 31, 30, 31, 31, 30, 31, 30, 31]
def intC1 (x : Int) : List C := [.v (.int .i64 x)]
theorem monthS_c (y m : Int) (h1 : 1 ≤ m) (h2 : m ≤ 12) : VC Tryz.prog 184 [.val (.int .i64 y), .val (.int .i64 m)] (.val (.int .i64 (mdays y m))) := by
  refine VC.intro hΘ Tryz.func184 rfl rfl Tryz.ntmps184 rfl rfl rfl fun B hB => ?_
  (conv => whnf)
  have fin : ∀ k : Nat, m = (k : Int) + 1 → IntKind.i64.wrap (m - 1) = (k : Int) := by
    intro k hk; rw [wrap_i64 (by omega) (by omega)]; omega
  have hm : m = 1 ∨ m = 2 ∨ m = 3 ∨ m = 4 ∨ m = 5 ∨ m = 6 ∨ m = 7 ∨ m = 8 ∨ m = 9 ∨ m = 10 ∨ m = 11 ∨ m = 12 := by omega
  have el : ∀ k : Nat, ∀ v : Int, m = (k : Int) + 1 → mL[k]? = some v → (∃ h, mL[k] = v) := fun k v _ h => List.getElem?_eq_some_iff.1 h
  rcases hm with rfl | rfl | rfl | rfl | rfl | rfl | rfl | rfl | rfl | rfl | rfl | rfl <;> (conv => whnf)
  · refine vix_intro 0 rfl (by decide) ?_
    (conv => whnf)
    refine vat_intro 0 (intC1 31) rfl rfl ?_
    (conv => whnf)
    exact vfin_int (by simp [mdays])
  · refine call_bb rfl (leapS_c y) (f1 (av rfl) f0) (fun h => ?_) (fun h => ?_) <;> (conv => whnf)
    · exact vfin_int (by simp [mdays, h])
    · refine vix_intro 1 rfl (by decide) ?_
      (conv => whnf)
      refine vat_intro 1 (intC1 28) rfl rfl ?_
      (conv => whnf)
      exact vfin_int (by simp [mdays, h])
  · refine vix_intro 2 rfl (by decide) ?_
    (conv => whnf)
    refine vat_intro 2 (intC1 31) rfl rfl ?_
    (conv => whnf)
    exact vfin_int (by simp [mdays])
  · refine vix_intro 3 rfl (by decide) ?_
    (conv => whnf)
    refine vat_intro 3 (intC1 30) rfl rfl ?_
    (conv => whnf)
    exact vfin_int (by simp [mdays])
  · refine vix_intro 4 rfl (by decide) ?_
    (conv => whnf)
    refine vat_intro 4 (intC1 31) rfl rfl ?_
    (conv => whnf)
    exact vfin_int (by simp [mdays])
  · refine vix_intro 5 rfl (by decide) ?_
    (conv => whnf)
    refine vat_intro 5 (intC1 30) rfl rfl ?_
    (conv => whnf)
    exact vfin_int (by simp [mdays])
  · refine vix_intro 6 rfl (by decide) ?_
    (conv => whnf)
    refine vat_intro 6 (intC1 31) rfl rfl ?_
    (conv => whnf)
    exact vfin_int (by simp [mdays])
  · refine vix_intro 7 rfl (by decide) ?_
    (conv => whnf)
    refine vat_intro 7 (intC1 31) rfl rfl ?_
    (conv => whnf)
    exact vfin_int (by simp [mdays])
  · refine vix_intro 8 rfl (by decide) ?_
    (conv => whnf)
    refine vat_intro 8 (intC1 30) rfl rfl ?_
    (conv => whnf)
    exact vfin_int (by simp [mdays])
  · refine vix_intro 9 rfl (by decide) ?_
    (conv => whnf)
    refine vat_intro 9 (intC1 31) rfl rfl ?_
    (conv => whnf)
    exact vfin_int (by simp [mdays])
  · refine vix_intro 10 rfl (by decide) ?_
    (conv => whnf)
    refine vat_intro 10 (intC1 30) rfl rfl ?_
    (conv => whnf)
    exact vfin_int (by simp [mdays])
  · refine vix_intro 11 rfl (by decide) ?_
    (conv => whnf)
    refine vat_intro 11 (intC1 31) rfl rfl ?_
    (conv => whnf)
    exact vfin_int (by simp [mdays])
set_option maxRecDepth 100000 in
theorem dateOkS_c (x : Dt) : VC Tryz.prog 148 [x.v] (.val (.bool x.ok)) := by
  refine VC.intro hΘ Tryz.func148 rfl rfl Tryz.ntmps148 rfl rfl rfl fun B hB => ?_
  (conv => whnf)
  refine vdraw_intro hΘ hB mixed (by kernel_rfl) ?_
  (conv => whnf)
  refine callQ_bb rfl (l1In_c x.y 1970 9999) (f1 (av rfl) (f1 (av rfl) (f1 (av rfl) f0))) (fun h1 => ?_) (fun h1 => ?_) <;> (conv => whnf)
  rotate_left
  · exact vfin_bool (by unfold Dt.ok; rw [h1]; rfl)
  refine callQ_bb rfl (l1In_c x.mo 1 12) (f1 (av rfl) (f1 (av rfl) (f1 (av rfl) f0))) (fun h2 => ?_) (fun h2 => ?_) <;> (conv => whnf)
  rotate_left
  · exact vfin_bool (by unfold Dt.ok; rw [h1, h2]; rfl)
  have hm : 1 ≤ x.mo ∧ x.mo ≤ 12 := by simpa [inR] using h2
  refine callQ_i rfl (monthS_c x.y x.mo hm.1 hm.2) (f1 (av rfl) (f1 (av rfl) f0)) fun md hmd => ?_
  (conv => whnf)
  refine callQ_bb rfl (l1In_c x.d 1 md) (f1 (av rfl) (f1 (av rfl) (f1 (av rfl) f0))) (fun h3 => ?_) (fun h3 => ?_) <;> rw [hmd] at h3 <;> (conv => whnf)
  rotate_left
  · exact vfin_bool (by unfold Dt.ok; rw [h1, h2, h3]; rfl)
  refine callQ_bb rfl (l1In_c x.h 0 23) (f1 (av rfl) (f1 (av rfl) (f1 (av rfl) f0))) (fun h4 => ?_) (fun h4 => ?_) <;> (conv => whnf)
  rotate_left
  · exact vfin_bool (by unfold Dt.ok; rw [h1, h2, h3, h4]; rfl)
  refine callQ_bb rfl (l1In_c x.mi 0 59) (f1 (av rfl) (f1 (av rfl) (f1 (av rfl) f0))) (fun h5 => ?_) (fun h5 => ?_) <;> (conv => whnf)
  rotate_left
  · exact vfin_bool (by unfold Dt.ok; rw [h1, h2, h3, h4, h5]; rfl)
  refine callQ_bb rfl (l1In_c x.s 0 59) (f1 (av rfl) (f1 (av rfl) (f1 (av rfl) f0))) (fun h6 => ?_) (fun h6 => ?_) <;> (conv => whnf)
  · exact vfin_bool (by unfold Dt.ok; rw [h1, h2, h3, h4, h5, h6]; rfl)
  · exact vfin_bool (by unfold Dt.ok; rw [h1, h2, h3, h4, h5, h6]; rfl)
set_option maxRecDepth 100000 in
theorem dateOkI_c (x : Dt) : VC Tryz.prog 152 [x.v] (.val (.bool x.ok)) := by
  refine VC.intro hΘ Tryz.func152 rfl rfl Tryz.ntmps152 rfl rfl rfl fun B hB => ?_
  (conv => whnf)
  refine vdraw_intro hΘ hB mixed (by kernel_rfl) ?_
  (conv => whnf)
  refine callQ_bb rfl (within_c x.y 1970 9999) (f1 (av rfl) (f1 (av rfl) (f1 (av rfl) f0))) (fun h1 => ?_) (fun h1 => ?_) <;> (conv => whnf)
  rotate_left
  · exact vfin_bool (by unfold Dt.ok; rw [h1]; rfl)
  refine callQ_bb rfl (within_c x.mo 1 12) (f1 (av rfl) (f1 (av rfl) (f1 (av rfl) f0))) (fun h2 => ?_) (fun h2 => ?_) <;> (conv => whnf)
  rotate_left
  · exact vfin_bool (by unfold Dt.ok; rw [h1, h2]; rfl)
  have hm : 1 ≤ x.mo ∧ x.mo ≤ 12 := by simpa [inR] using h2
  refine callQ_i rfl (daysInI_c x.y x.mo) (f1 (av rfl) (f1 (av rfl) f0)) fun md hmd => ?_
  (conv => whnf)
  refine callQ_bb rfl (within_c x.d 1 md) (f1 (av rfl) (f1 (av rfl) (f1 (av rfl) f0))) (fun h3 => ?_) (fun h3 => ?_) <;> rw [hmd] at h3 <;> (conv => whnf)
  rotate_left
  · exact vfin_bool (by unfold Dt.ok; rw [h1, h2, h3]; rfl)
  refine callQ_bb rfl (within_c x.h 0 23) (f1 (av rfl) (f1 (av rfl) (f1 (av rfl) f0))) (fun h4 => ?_) (fun h4 => ?_) <;> (conv => whnf)
  rotate_left
  · exact vfin_bool (by unfold Dt.ok; rw [h1, h2, h3, h4]; rfl)
  refine callQ_bb rfl (within_c x.mi 0 59) (f1 (av rfl) (f1 (av rfl) (f1 (av rfl) f0))) (fun h5 => ?_) (fun h5 => ?_) <;> (conv => whnf)
  rotate_left
  · exact vfin_bool (by unfold Dt.ok; rw [h1, h2, h3, h4, h5]; rfl)
  refine callQ_bb rfl (within_c x.s 0 59) (f1 (av rfl) (f1 (av rfl) (f1 (av rfl) f0))) (fun h6 => ?_) (fun h6 => ?_) <;> (conv => whnf)
  · exact vfin_bool (by unfold Dt.ok; rw [h1, h2, h3, h4, h5, h6]; rfl)
  · exact vfin_bool (by unfold Dt.ok; rw [h1, h2, h3, h4, h5, h6]; rfl)
theorem daysS_c (x : Dt) (hx : x.ok = true) : VC Tryz.prog 149 [x.v] (.val (.int .i64 x.days)) := by
  obtain ⟨⟨a1, a2⟩, ⟨b1, b2⟩, ⟨c1, c2⟩, _⟩ := ok_iff.1 hx
  have hmd := mdays_le x.y x.mo
  have hyd := ydays_le a1 a2
  refine VC.intro hΘ Tryz.func149 rfl rfl Tryz.ntmps149 rfl rfl rfl fun B hB => ?_
  (conv => whnf)
  refine vdraw_intro hΘ hB mixed (by kernel_rfl) ?_
  (conv => whnf)
  refine callQ_i rfl (yearS_c x.y a1 a2) (f1 (av rfl) f0) fun yd hy => ?_
  (conv => whnf)
  have e0 : IntKind.i64.wrap (IntKind.i64.wrap (yd + x.d) - 1) = yd + x.d - 1 := by rw [hy, wrap_i64 (x := ydays x.y + x.d) (by omega) (by omega), wrap_i64 (by omega) (by omega)]
  refine vloop_intro hΘ hB (ι := Nat) (fun k => ⟨[(1, .ptr 1 0), (3, .val (.int .i64 (yd + x.d - 1 + msum x.y k))), (4, .val (.int .i64 ((k + 1 : Nat) : Int)))], [(1, x.cs)]⟩) (fun k => (k : Int) + 1 ≤ x.mo) (fun k => 12 - k) 0
    ⟨⟨.inr rfl, .inr (vint_eq (by rw [e0]; simp [msum])), .inr rfl, trivial⟩, ⟨⟨.inr rfl, .inr rfl, .inr rfl, .inr rfl, .inr rfl, .inr rfl, trivial⟩, trivial⟩⟩ (by simpa using b1) ?_
  rintro k hk
  (conv => whnf)
  refine brm_p (fun h => ?_) (fun h => ?_) <;> (conv => whnf)
  · have hk1 : 1 ≤ ((k + 1 : Nat) : Int) := by omega
    have hk2 : ((k + 1 : Nat) : Int) ≤ 12 := by omega
    have hmk := mdays_le x.y ((k + 1 : Nat) : Int)
    have hms := msum_le x.y k
    refine vcallS_intro0 rfl (monthS_c x.y ((k + 1 : Nat) : Int) hk1 hk2) (f1 (av rfl) (f1 (av rfl) f0)) ?_
    (conv => whnf)
    refine ⟨k + 1, ⟨⟨.inr rfl, .inr (vint_eq ?_), .inr (vint_eq (wrap_succ (by omega))), trivial⟩, ⟨⟨.inr rfl, .inr rfl, .inr rfl, .inr rfl, .inr rfl, .inr rfl, trivial⟩, trivial⟩⟩, by omega, by omega⟩
    rw [wrap_i64 (by omega) (by omega)]
    simp only [msum]
    rw [show ((k : Int) + 1) = ((k + 1 : Nat) : Int) by omega]
    omega
  · refine vfin_int ?_
    unfold Dt.days
    have : x.mo.toNat - 1 = k := by omega
    rw [this, hy]
theorem daysI_c (x : Dt) (hx : x.ok = true) : VC Tryz.prog 154 [x.v] (.val (.int .i64 x.days)) := by
  obtain ⟨⟨a1, a2⟩, ⟨b1, b2⟩, ⟨c1, c2⟩, _⟩ := ok_iff.1 hx
  have hmd := mdays_le x.y x.mo
  have hyd := ydays_le a1 a2
  refine VC.intro hΘ Tryz.func154 rfl rfl Tryz.ntmps154 rfl rfl rfl fun B hB => ?_
  (conv => whnf)
  refine vdraw_intro hΘ hB mixed (by kernel_rfl) ?_
  (conv => whnf)
  refine callQ_i rfl (yearI_c x.y a1 a2) (f1 (av rfl) f0) fun yd hy => ?_
  (conv => whnf)
  have e0 : IntKind.i64.wrap (IntKind.i64.wrap (yd + x.d) - 1) = yd + x.d - 1 := by rw [hy, wrap_i64 (x := ydays x.y + x.d) (by omega) (by omega), wrap_i64 (by omega) (by omega)]
  refine vloop_intro hΘ hB (ι := Nat) (fun k => ⟨[(1, .ptr 1 0), (3, .val (.int .i64 (yd + x.d - 1 + msum x.y k))), (4, .val (.int .i64 ((k + 1 : Nat) : Int)))], [(1, x.cs)]⟩) (fun k => (k : Int) + 1 ≤ x.mo) (fun k => 12 - k) 0
    ⟨⟨.inr rfl, .inr (vint_eq (by rw [e0]; simp [msum])), .inr rfl, trivial⟩, ⟨⟨.inr rfl, .inr rfl, .inr rfl, .inr rfl, .inr rfl, .inr rfl, trivial⟩, trivial⟩⟩ (by simpa using b1) ?_
  rintro k hk
  (conv => whnf)
  refine brm_p (fun h => ?_) (fun h => ?_) <;> (conv => whnf)
  · have hk1 : 1 ≤ ((k + 1 : Nat) : Int) := by omega
    have hk2 : ((k + 1 : Nat) : Int) ≤ 12 := by omega
    have hmk := mdays_le x.y ((k + 1 : Nat) : Int)
    have hms := msum_le x.y k
    refine vcallS_intro0 rfl (daysInI_c x.y ((k + 1 : Nat) : Int)) (f1 (av rfl) (f1 (av rfl) f0)) ?_
    (conv => whnf)
    refine ⟨k + 1, ⟨⟨.inr rfl, .inr (vint_eq ?_), .inr (vint_eq (wrap_succ (by omega))), trivial⟩, ⟨⟨.inr rfl, .inr rfl, .inr rfl, .inr rfl, .inr rfl, .inr rfl, trivial⟩, trivial⟩⟩, by omega, by omega⟩
    rw [wrap_i64 (by omega) (by omega)]
    simp only [msum]
    rw [show ((k : Int) + 1) = ((k + 1 : Nat) : Int) by omega]
    omega
  · refine vfin_int ?_
    unfold Dt.days
    have : x.mo.toNat - 1 = k := by omega
    rw [this, hy]
theorem momentS_c (x : Dt) : VC Tryz.prog 115 [x.v] (.val (.int .i64 x.moment)) := by
  refine VC.intro hΘ Tryz.func115 rfl rfl Tryz.ntmps115 rfl rfl rfl fun B hB => ?_
  (conv => whnf)
  refine call_bb rfl (dateOkS_c x) (f1 (fa (l1 (fv rfl) (l1 (fv rfl) (l1 (fv rfl) (l1 (fv rfl) (l1 (fv rfl) (l1 (fv rfl) l0))))))) f0) (fun h => ?_) (fun h => ?_) <;> (conv => whnf)
  rotate_left
  · exact vfin_int (by unfold Dt.moment; rw [h]; rfl)
  obtain ⟨_, _, _, ⟨d1, d2⟩, ⟨e1, e2⟩, f1', f2⟩ := ok_iff.1 h
  have hd := days_le h
  refine vdraw_intro hΘ hB mixed (by kernel_rfl) ?_
  (conv => whnf)
  refine callQ_i rfl (daysS_c x h) (f1 (fa (l1 (fv rfl) (l1 (fv rfl) (l1 (fv rfl) (l1 (fv rfl) (l1 (fv rfl) (l1 (fv rfl) l0))))))) f0) fun y hy => ?_
  (conv => whnf)
  refine vfin_int ?_
  unfold Dt.moment
  rw [if_pos h, hy]
  simp (disch := omega) only [wrap_i64]
theorem momentI_c (x : Dt) : VC Tryz.prog 117 [x.v] (.val (.int .i64 x.moment)) := by
  refine VC.intro hΘ Tryz.func117 rfl rfl Tryz.ntmps117 rfl rfl rfl fun B hB => ?_
  (conv => whnf)
  refine call_bb rfl (dateOkI_c x) (f1 (fa (l1 (fv rfl) (l1 (fv rfl) (l1 (fv rfl) (l1 (fv rfl) (l1 (fv rfl) (l1 (fv rfl) l0))))))) f0) (fun h => ?_) (fun h => ?_) <;> (conv => whnf)
  rotate_left
  · exact vfin_int (by unfold Dt.moment; rw [h]; rfl)
  obtain ⟨_, _, _, ⟨d1, d2⟩, ⟨e1, e2⟩, f1', f2⟩ := ok_iff.1 h
  have hd := days_le h
  refine vdraw_intro hΘ hB mixed (by kernel_rfl) ?_
  (conv => whnf)
  refine callQ_i rfl (daysI_c x h) (f1 (fa (l1 (fv rfl) (l1 (fv rfl) (l1 (fv rfl) (l1 (fv rfl) (l1 (fv rfl) (l1 (fv rfl) l0))))))) f0) fun y hy => ?_
  (conv => whnf)
  refine vfin_int ?_
  unfold Dt.moment
  rw [if_pos h, hy]
  simp (disch := omega) only [wrap_i64]
theorem weekdayS_c (x : Dt) (h : x.ok = true) : VC Tryz.prog 182 [x.v] (.val (.int .i64 (x.wd : Int))) := by
  refine VC.intro hΘ Tryz.func182 rfl rfl Tryz.ntmps182 rfl rfl rfl fun B hB => ?_
  (conv => whnf)
  refine call_bb rfl (dateOkS_c x) (f1 (fa (l1 (fv rfl) (l1 (fv rfl) (l1 (fv rfl) (l1 (fv rfl) (l1 (fv rfl) (l1 (fv rfl) l0))))))) f0) (fun _ => ?_) (fun h' => ?_) <;> (conv => whnf)
  rotate_left
  · rw [h] at h'; cases h'
  have hd := days_le h
  refine call_i rfl (daysS_c x h) (f1 (fa (l1 (fv rfl) (l1 (fv rfl) (l1 (fv rfl) (l1 (fv rfl) (l1 (fv rfl) (l1 (fv rfl) l0))))))) f0) fun y hy => ?_
  (conv => whnf)
  refine vreq_intro (by decide) ?_
  (conv => whnf)
  refine vfin_int ?_
  unfold Dt.wd
  rw [hy, wrap_i64 (by omega) (by omega), Int.tmod_eq_emod_of_nonneg (by omega)]
  omega
theorem weekdayI_c (x : Dt) (h : x.ok = true) : VC Tryz.prog 188 [x.v] (.val (.int .i64 (x.wd : Int))) := by
  refine VC.intro hΘ Tryz.func188 rfl rfl Tryz.ntmps188 rfl rfl rfl fun B hB => ?_
  (conv => whnf)
  refine call_bb rfl (dateOkI_c x) (f1 (fa (l1 (fv rfl) (l1 (fv rfl) (l1 (fv rfl) (l1 (fv rfl) (l1 (fv rfl) (l1 (fv rfl) l0))))))) f0) (fun _ => ?_) (fun h' => ?_) <;> (conv => whnf)
  rotate_left
  · rw [h] at h'; cases h'
  have hd := days_le h
  refine call_i rfl (daysI_c x h) (f1 (fa (l1 (fv rfl) (l1 (fv rfl) (l1 (fv rfl) (l1 (fv rfl) (l1 (fv rfl) (l1 (fv rfl) l0))))))) f0) fun y hy => ?_
  (conv => whnf)
  refine vreq_intro (by decide) ?_
  (conv => whnf)
  refine vfin_int ?_
  unfold Dt.wd
  rw [hy, wrap_i64 (by omega) (by omega), Int.tmod_eq_emod_of_nonneg (by omega)]
  omega
end Go.Proofs.YtfdmlccbfbiloaaGreatDoor
namespace Go.Proofs.YtfdmlccbfbiloaaGreatDoor
open Go Go.Proofs.YtfdmlccbfbiloaaGreatDoor.Vs
variable [Gl]
set_option linter.unusedSectionVars false

/-- what the calendar's functions lean on: the table of the powers of ten, and a number that the library holds -/
class GlD [Gl] : Prop where
  pow : ∀ ow w, GOk ow w → Lib.TabIs Tryz.prog w "internal/strconv.uint64pow10" .u64 Lib.pow10Tab
  max : ∀ ow w, GOk ow w → ∃ m : Int, w.cell? ⟨0, 0, none⟩ = some (.int .i64 m)
variable [GlD]

/-! #### numbers in digits -/
theorem cat3 {x y : ByteArray} {m n : Nat} (h : (sb x).length = m) (h' : (sb y).length = n) (hm : m ≤ 1000) (hn : n ≤ 1000) : (sb x).length + (sb y).length ≤ cap63 := by unfold cap63; omega
theorem two_c (n : Int) (h0 : 0 ≤ n) (h1 : n ≤ 99999) : VC Tryz.prog 183 [.val (.int .i64 n)] (.val (.string (bs (two n)))) := by
  have e0 : IntKind.i64.wrap (n.tdiv 10) = n / 10 := by rw [Int.tdiv_eq_ediv_of_nonneg h0]; exact wrap_i64 (by omega) (by omega)
  have e1 : (n / 10).tmod 10 = n / 10 % 10 := Int.tmod_eq_emod_of_nonneg (by omega)
  have e2 : n.tmod 10 = n % 10 := Int.tmod_eq_emod_of_nonneg h0
  refine VC.intro hΘ Tryz.func183 rfl rfl Tryz.ntmps183 rfl rfl rfl fun B hB => ?_
  (conv => whnf)
  refine vreq_intro (by decide) ?_
  (conv => whnf)
  refine vreq_intro (by decide) ?_
  (conv => whnf)
  refine vreq_intro (by decide) ?_
  (conv => whnf)
  have d1 := dgt_dg (n := n / 10 % 10) (by omega) (by omega)
  have d2 := dgt_dg (n := n % 10) (by omega) (by omega)
  refine vbytes_intro (two n) ?_ ?_
  · rw [e0, e1, e2]
    simp (disch := omega) only [wrap_i64, wrap_u8]
    simp only [two, bytesC, List.map_cons, List.map_nil, d1, d2]
    rw [show ((48 + (n / 10 % 10).toNat : Nat) : Int) = 48 + n / 10 % 10 by omega, show ((48 + (n % 10).toNat : Nat) : Int) = 48 + n % 10 by omega]
    rfl
  · (conv => whnf)
    exact vfin_str rfl
theorem itoa_one {n : Int} (h0 : 0 ≤ n) (h1 : n ≤ 9) : Lib.itoa n = [dgt (n % 10)] := by
  unfold Lib.itoa
  rw [if_neg (by omega), Lib.decDigits_one (by omega)]
  unfold dgt
  rw [show (n % 10).toNat = n.toNat by omega]
theorem itoa_two {n : Int} (h0 : 10 ≤ n) (h1 : n ≤ 99) : Lib.itoa n = two n := by
  unfold Lib.itoa
  rw [if_neg (by omega), Lib.decDigits_two (by omega) (by omega)]
  unfold two dgt
  rw [show (n / 10 % 10).toNat = n.toNat / 10 by omega, show (n % 10).toNat = n.toNat % 10 by omega]
theorem itoa_four {n : Int} (h0 : 1000 ≤ n) (h1 : n ≤ 9999) : Lib.itoa n = two (n / 100) ++ two n := by
  unfold Lib.itoa
  rw [if_neg (by omega)]
  rw [Lib.decDigits, dif_neg (by omega), Lib.decDigits, dif_neg (by omega), Lib.decDigits_two (by omega) (by omega)]
  unfold two dgt
  rw [show (n / 100 / 10 % 10).toNat = n.toNat / 10 / 10 / 10 by omega, show (n / 100 % 10).toNat = n.toNat / 10 / 10 % 10 by omega, show (n / 10 % 10).toNat = n.toNat / 10 % 10 by omega, show (n % 10).toNat = n.toNat % 10 by omega]
  rfl
theorem formatInt_c (n : Int) (h0 : 0 ≤ n) (h1 : n ≤ 9999) : VC Tryz.prog 223 [.val (.int .i64 n), .val (.int .i64 10)] (.val (.string (bs (Lib.itoa n)))) :=
  VC.of_valsG (xs := [.int .i64 n, .int .i64 10]) (x := .string (bs (Lib.itoa n))) Tryz.func223 rfl rfl rfl fun ow w hg =>
    (Tryz.strconv_FormatInt_10 n (by omega) (by omega) w (GlD.pow ow w hg)).mono fun _ _ ⟨h1, k, os, h2⟩ => ⟨h1, h2 ▸ Lib.below_grow _ _ (Nat.le_refl _) k os⟩
theorem decimal_c (n : Int) (h0 : 0 ≤ n) (h1 : n ≤ 9999) : VC Tryz.prog 209 [.val (.int .i64 n)] (.val (.string (bs (Lib.itoa n)))) := by
  refine VC.intro hΘ Tryz.func209 rfl rfl Tryz.ntmps209 rfl rfl rfl fun B hB => ?_
  (conv => whnf)
  refine vcallS_intro0 rfl (formatInt_c n h0 h1) (f1 (av rfl) (f1 (av rfl) f0)) ?_
  (conv => whnf)
  exact vfin_str rfl
theorem repeat_c (s : ByteArray) (c : Nat) (hs : (sb s).length ≤ 1000) (hc : c ≤ 1000) : VC Tryz.prog 210 [.val (.string s), .val (.int .i64 c)] (.val (.string (bs (Lib.repeatL (sb s) c)))) :=
  VC.of_vals (xs := [.string s, .int .i64 c]) (x := .string (bs (Lib.repeatL (sb s) c))) Tryz.func210 rfl rfl rfl fun w =>
    Tryz.strings_Repeat s c w (by omega) (by rw [size_sb]; exact Nat.le_trans (Nat.mul_le_mul hs hc) (by decide))
theorem padded2_c (n : Int) (h0 : 0 ≤ n) (h1 : n ≤ 99) : VC Tryz.prog 189 [.val (.int .i64 n), .val (.int .i64 2)] (.val (.string (bs (two n)))) := by
  refine VC.intro hΘ Tryz.func189 rfl rfl Tryz.ntmps189 rfl rfl rfl fun B hB => ?_
  (conv => whnf)
  have cd := decimal_c n h0 (by omega)
  by_cases h : n ≤ 9
  · rw [itoa_one h0 h] at cd
    refine vcallS_intro0 rfl cd (f1 (av rfl) f0) ?_
    (conv => whnf)
    refine vcallS_intro0 rfl (repeat_c ⟨#[48]⟩ 1 (by decide) (by decide)) (f1 (av rfl) (f1 (av rfl) f0)) ?_
    (conv => whnf)
    refine vreq_intro (cat3 (m := 1) (n := 1) rfl rfl (by decide) (by decide)) ?_
    (conv => whnf)
    refine vfin_str ?_
    show bs [48, dgt (n % 10)] = bs (two n)
    unfold two
    have : dgt (n / 10 % 10) = 48 := by
      have : n / 10 % 10 = 0 := by omega
      rw [this]; rfl
    rw [this]
  · rw [itoa_two (by omega) h1] at cd
    refine vcallS_intro0 rfl cd (f1 (av rfl) f0) ?_
    (conv => whnf)
    refine vcallS_intro0 rfl (repeat_c ⟨#[48]⟩ 0 (by decide) (by decide)) (f1 (av rfl) (f1 (av rfl) f0)) ?_
    (conv => whnf)
    refine vreq_intro (cat3 (m := 0) (n := 2) rfl rfl (by decide) (by decide)) ?_
    (conv => whnf)
    exact vfin_str rfl
theorem padded4_c (n : Int) (h0 : 1970 ≤ n) (h1 : n ≤ 9999) : VC Tryz.prog 189 [.val (.int .i64 n), .val (.int .i64 4)] (.val (.string (bs (two (n / 100) ++ two n)))) := by
  refine VC.intro hΘ Tryz.func189 rfl rfl Tryz.ntmps189 rfl rfl rfl fun B hB => ?_
  (conv => whnf)
  have cd := decimal_c n (by omega) h1
  rw [itoa_four (by omega) h1] at cd
  refine vcallS_intro0 rfl cd (f1 (av rfl) f0) ?_
  (conv => whnf)
  refine vcallS_intro0 rfl (repeat_c ⟨#[48]⟩ 0 (by decide) (by decide)) (f1 (av rfl) (f1 (av rfl) f0)) ?_
  (conv => whnf)
  refine vreq_intro (cat3 (m := 0) (n := 4) rfl rfl (by decide) (by decide)) ?_
  (conv => whnf)
  exact vfin_str rfl

/-! #### names -/
theorem cutW : ∀ k, k < 7 → (wkT.drop (3 * k)).take (3 * k + 3 - 3 * k) = at3 wkT k := by decide
theorem cutM : ∀ k, k < 12 → (moT.drop (3 * k)).take (3 * k + 3 - 3 * k) = at3 moT k := by decide
theorem dayName_c (k : Nat) (h : k < 7) : VC Tryz.prog 181 [.val (.int .i64 k)] (.val (.string (bs (at3 wkT k)))) := by
  refine VC.intro hΘ Tryz.func181 rfl rfl Tryz.ntmps181 rfl rfl rfl fun B hB => ?_
  (conv => whnf)
  refine vrange_intro (3 * k) (3 * k + 3) (by rw [wrap_i64 (by omega) (by omega)]; omega) (by rw [wrap_i64 (x := 3 * (k : Int)) (by omega) (by omega), wrap_i64 (by omega) (by omega)]; omega) (by omega) (by show _ ≤ 21; omega) ?_
  (conv => whnf)
  exact vfin_str (by rw [← cutW k h]; rfl)
theorem monName_c (k : Nat) (h : k < 12) : VC Tryz.prog 146 [.val (.int .i64 ((k + 1 : Nat) : Int))] (.val (.string (bs (at3 moT k)))) := by
  refine VC.intro hΘ Tryz.func146 rfl rfl Tryz.ntmps146 rfl rfl rfl fun B hB => ?_
  (conv => whnf)
  refine vrange_intro (3 * k) (3 * k + 3) (by rw [wrap_i64 (x := 3 * ((k + 1 : Nat) : Int)) (by omega) (by omega), wrap_i64 (by omega) (by omega)]; omega) (by rw [wrap_i64 (by omega) (by omega)]; omega) (by omega) (by show _ ≤ 36; omega) ?_
  (conv => whnf)
  exact vfin_str (by rw [← cutM k h]; rfl)

/-! #### a date is shown -/
def Dt.txt (x : Dt) : List UInt8 := if x.ok then x.show else []
theorem show_eq (x : Dt) : x.show = at3 wkT x.wd ++ [44, 32] ++ two x.d ++ [32] ++ at3 moT (x.mo.toNat - 1) ++ [32] ++ two (x.y / 100) ++ two x.y ++ [32] ++ two x.h ++ [58] ++ two x.mi ++ [58] ++ two x.s ++ [32, 71, 77, 84] := rfl
set_option maxRecDepth 100000 in
theorem showDateS_c (x : Dt) : VC Tryz.prog 147 [x.v] (.val (.string (bs x.txt))) := by
  refine VC.intro hΘ Tryz.func147 rfl rfl Tryz.ntmps147 rfl rfl rfl fun B hB => ?_
  (conv => whnf)
  refine call_bb rfl (dateOkS_c x) (f1 (fa (l1 (fv rfl) (l1 (fv rfl) (l1 (fv rfl) (l1 (fv rfl) (l1 (fv rfl) (l1 (fv rfl) l0))))))) f0) (fun h => ?_) (fun h => ?_) <;> (conv => whnf)
  rotate_left
  · exact vfin_str (by unfold Dt.txt; rw [h]; rfl)
  obtain ⟨⟨a1, a2⟩, ⟨b1, b2⟩, ⟨c1, c2⟩, ⟨d1, d2⟩, ⟨e1, e2⟩, f1', f2⟩ := ok_iff.1 h
  have hmd := mdays_le x.y x.mo
  have hwd : x.wd < 7 := by unfold Dt.wd; omega
  have hmo : x.mo = ((x.mo.toNat - 1 + 1 : Nat) : Int) := by omega
  have cm := monName_c (x.mo.toNat - 1) (by omega)
  rw [← hmo] at cm
  have hyq : IntKind.i64.wrap (x.y.tdiv 100) = x.y / 100 := by rw [Int.tdiv_eq_ediv_of_nonneg (by omega)]; exact wrap_i64 (by omega) (by omega)
  have cy := two_c (x.y / 100) (by omega) (by omega)
  rw [← hyq] at cy
  refine vdraw_intro hΘ hB mixed (by kernel_rfl) ?_
  (conv => whnf)
  refine vcallQ_intro0 rfl (weekdayS_c x h) (f1 (fa (l1 (fv rfl) (l1 (fv rfl) (l1 (fv rfl) (l1 (fv rfl) (l1 (fv rfl) (l1 (fv rfl) l0))))))) f0) rfl ?_
  (conv => whnf)
  refine vcallQ_intro0 rfl (dayName_c x.wd hwd) (f1 (av rfl) f0) rfl ?_
  (conv => whnf)
  refine vreq_intro (cat3 (m := 3) (n := 2) rfl rfl (by decide) (by decide)) ?_
  (conv => whnf)
  refine vcallQ_intro0 rfl (two_c x.d (by omega) (by omega)) (f1 (av rfl) f0) rfl ?_
  (conv => whnf)
  refine vreq_intro (cat3 (m := 5) (n := 2) rfl rfl (by decide) (by decide)) ?_
  (conv => whnf)
  refine vreq_intro (cat3 (m := 7) (n := 1) rfl rfl (by decide) (by decide)) ?_
  (conv => whnf)
  refine vcallQ_intro0 rfl cm (f1 (av rfl) f0) rfl ?_
  (conv => whnf)
  refine vreq_intro (cat3 (m := 8) (n := 3) rfl rfl (by decide) (by decide)) ?_
  (conv => whnf)
  refine vreq_intro (cat3 (m := 11) (n := 1) rfl rfl (by decide) (by decide)) ?_
  (conv => whnf)
  refine vreq_intro (by decide) ?_
  (conv => whnf)
  refine vcallQ_intro0 rfl cy (f1 (av rfl) f0) rfl ?_
  (conv => whnf)
  refine vreq_intro (cat3 (m := 12) (n := 2) rfl rfl (by decide) (by decide)) ?_
  (conv => whnf)
  refine vcallQ_intro0 rfl (two_c x.y (by omega) (by omega)) (f1 (av rfl) f0) rfl ?_
  (conv => whnf)
  refine vreq_intro (cat3 (m := 14) (n := 2) rfl rfl (by decide) (by decide)) ?_
  (conv => whnf)
  refine vreq_intro (cat3 (m := 16) (n := 1) rfl rfl (by decide) (by decide)) ?_
  (conv => whnf)
  refine vcallQ_intro0 rfl (two_c x.h (by omega) (by omega)) (f1 (av rfl) f0) rfl ?_
  (conv => whnf)
  refine vreq_intro (cat3 (m := 17) (n := 2) rfl rfl (by decide) (by decide)) ?_
  (conv => whnf)
  refine vreq_intro (cat3 (m := 19) (n := 1) rfl rfl (by decide) (by decide)) ?_
  (conv => whnf)
  refine vcallQ_intro0 rfl (two_c x.mi (by omega) (by omega)) (f1 (av rfl) f0) rfl ?_
  (conv => whnf)
  refine vreq_intro (cat3 (m := 20) (n := 2) rfl rfl (by decide) (by decide)) ?_
  (conv => whnf)
  refine vreq_intro (cat3 (m := 22) (n := 1) rfl rfl (by decide) (by decide)) ?_
  (conv => whnf)
  refine vcallQ_intro0 rfl (two_c x.s (by omega) (by omega)) (f1 (av rfl) f0) rfl ?_
  (conv => whnf)
  refine vreq_intro (cat3 (m := 23) (n := 2) rfl rfl (by decide) (by decide)) ?_
  (conv => whnf)
  refine vreq_intro (cat3 (m := 25) (n := 4) rfl rfl (by decide) (by decide)) ?_
  (conv => whnf)
  refine vfin_str ?_
  unfold Dt.txt
  rw [if_pos h]
  rw [hyq]
  rfl
set_option maxRecDepth 100000 in
theorem showDateI_c (x : Dt) : VC Tryz.prog 153 [x.v] (.val (.string (bs x.txt))) := by
  refine VC.intro hΘ Tryz.func153 rfl rfl Tryz.ntmps153 rfl rfl rfl fun B hB => ?_
  (conv => whnf)
  refine call_bb rfl (dateOkI_c x) (f1 (fa (l1 (fv rfl) (l1 (fv rfl) (l1 (fv rfl) (l1 (fv rfl) (l1 (fv rfl) (l1 (fv rfl) l0))))))) f0) (fun h => ?_) (fun h => ?_) <;> (conv => whnf)
  rotate_left
  · exact vfin_str (by unfold Dt.txt; rw [h]; rfl)
  obtain ⟨⟨a1, a2⟩, ⟨b1, b2⟩, ⟨c1, c2⟩, ⟨d1, d2⟩, ⟨e1, e2⟩, f1', f2⟩ := ok_iff.1 h
  have hmd := mdays_le x.y x.mo
  have hwd : x.wd < 7 := by unfold Dt.wd; omega
  refine vdraw_intro hΘ hB mixed (by kernel_rfl) ?_
  (conv => whnf)
  refine vcallQ_intro0 rfl (weekdayI_c x h) (f1 (fa (l1 (fv rfl) (l1 (fv rfl) (l1 (fv rfl) (l1 (fv rfl) (l1 (fv rfl) (l1 (fv rfl) l0))))))) f0) rfl ?_
  (conv => whnf)
  refine vdraw_intro hΘ hB mixed (by kernel_rfl) ?_
  (conv => whnf)
  refine vrange_intro (3 * x.wd) (3 * x.wd + 3) (by rw [wrap_i64 (by omega) (by omega)]; omega) (by rw [wrap_i64 (x := 3 * (x.wd : Int)) (by omega) (by omega), wrap_i64 (by omega) (by omega)]; omega) (by omega) (by show _ ≤ 21; omega) ?_
  (conv => whnf)
  have hw3 : ((sb ⟨#[83, 117, 110, 77, 111, 110, 84, 117, 101, 87, 101, 100, 84, 104, 117, 70, 114, 105, 83, 97, 116]⟩).drop (3 * x.wd)).take (3 * x.wd + 3 - 3 * x.wd) = at3 wkT x.wd := cutW x.wd hwd
  rw [hw3]
  refine vreq_intro (cat3 (m := 3) (n := 2) rfl rfl (by decide) (by decide)) ?_
  (conv => whnf)
  refine vcallQ_intro0 rfl (padded2_c x.d (by omega) (by omega)) (f1 (av rfl) (f1 (av rfl) f0)) rfl ?_
  (conv => whnf)
  refine vreq_intro (cat3 (m := 5) (n := 2) rfl rfl (by decide) (by decide)) ?_
  (conv => whnf)
  refine vreq_intro (cat3 (m := 7) (n := 1) rfl rfl (by decide) (by decide)) ?_
  (conv => whnf)
  have em : IntKind.i64.wrap (3 * IntKind.i64.wrap (x.mo - 1)) = ((3 * (x.mo.toNat - 1) : Nat) : Int) := by rw [wrap_i64 (x := x.mo - 1) (by omega) (by omega), wrap_i64 (by omega) (by omega)]; omega
  refine vrange_intro (3 * (x.mo.toNat - 1)) (3 * (x.mo.toNat - 1) + 3) em (by rw [em, wrap_i64 (by omega) (by omega)]; omega) (by omega) (by show _ ≤ 36; omega) ?_
  (conv => whnf)
  have hm3 : ((sb ⟨#[74, 97, 110, 70, 101, 98, 77, 97, 114, 65, 112, 114, 77, 97, 121, 74, 117, 110, 74, 117, 108, 65, 117, 103, 83, 101, 112, 79, 99, 116, 78, 111, 118, 68, 101, 99]⟩).drop (3 * (x.mo.toNat - 1))).take (3 * (x.mo.toNat - 1) + 3 - 3 * (x.mo.toNat - 1)) = at3 moT (x.mo.toNat - 1) := cutM (x.mo.toNat - 1) (by omega)
  rw [hm3]
  refine vreq_intro (cat3 (m := 8) (n := 3) rfl rfl (by decide) (by decide)) ?_
  (conv => whnf)
  refine vreq_intro (cat3 (m := 11) (n := 1) rfl rfl (by decide) (by decide)) ?_
  (conv => whnf)
  refine vcallQ_intro0 rfl (padded4_c x.y a1 a2) (f1 (av rfl) (f1 (av rfl) f0)) rfl ?_
  (conv => whnf)
  refine vreq_intro (cat3 (m := 12) (n := 4) rfl rfl (by decide) (by decide)) ?_
  (conv => whnf)
  refine vreq_intro (cat3 (m := 16) (n := 1) rfl rfl (by decide) (by decide)) ?_
  (conv => whnf)
  refine vcallQ_intro0 rfl (padded2_c x.h (by omega) (by omega)) (f1 (av rfl) (f1 (av rfl) f0)) rfl ?_
  (conv => whnf)
  refine vreq_intro (cat3 (m := 17) (n := 2) rfl rfl (by decide) (by decide)) ?_
  (conv => whnf)
  refine vreq_intro (cat3 (m := 19) (n := 1) rfl rfl (by decide) (by decide)) ?_
  (conv => whnf)
  refine vcallQ_intro0 rfl (padded2_c x.mi (by omega) (by omega)) (f1 (av rfl) (f1 (av rfl) f0)) rfl ?_
  (conv => whnf)
  refine vreq_intro (cat3 (m := 20) (n := 2) rfl rfl (by decide) (by decide)) ?_
  (conv => whnf)
  refine vreq_intro (cat3 (m := 22) (n := 1) rfl rfl (by decide) (by decide)) ?_
  (conv => whnf)
  refine vcallQ_intro0 rfl (padded2_c x.s (by omega) (by omega)) (f1 (av rfl) (f1 (av rfl) f0)) rfl ?_
  (conv => whnf)
  refine vreq_intro (cat3 (m := 23) (n := 2) rfl rfl (by decide) (by decide)) ?_
  (conv => whnf)
  refine vreq_intro (cat3 (m := 25) (n := 4) rfl rfl (by decide) (by decide)) ?_
  (conv => whnf)
  refine vfin_str ?_
  unfold Dt.txt
  rw [if_pos h]
  rfl
end Go.Proofs.YtfdmlccbfbiloaaGreatDoor
namespace Go.Proofs.YtfdmlccbfbiloaaGreatDoor
open Go Go.Proofs.YtfdmlccbfbiloaaGreatDoor.Vs
variable [Gl]
set_option linter.unusedSectionVars false
variable [GlD]

/-! #### a date is read -/
def numAt (s : List UInt8) (p : Nat) : Int := (digits (cutL s p (p + 2))).getD 0
def posL : List Int := [5, 12, 14, 17, 20, 23]
theorem parS_eq (s : List UInt8) : parS s = ⟨100 * numAt s 12 + numAt s 14, monS (cutL s 8 11) 12, numAt s 5, numAt s 17, numAt s 20, numAt s 23⟩ := rfl
theorem numAt_le (s : List UInt8) (p : Nat) : 0 ≤ numAt s p ∧ numAt s p ≤ 1000000000000000 := by
  unfold numAt
  cases h : digits (cutL s p (p + 2)) with
  | none => exact ⟨by decide, by decide⟩
  | some v =>
    have := digits_le h
    simp only [Option.getD_some]; omega
theorem readV_no {s : List UInt8} (h : readOk s = false) : readV s = .tup [Dt.z.v, .val (.bool false)] := by unfold readV readD; rw [h]; rfl
theorem readV_yes {s : List UInt8} (h : readOk s = true) : readV s = .tup [(parS s).v, .val (.bool true)] := by unfold readV readD; rw [h]; rfl
theorem txt_shows {x : Dt} {s : List UInt8} (hl : s.length = 29) : (x.txt == s) = x.shows s := by
  unfold Dt.txt Dt.shows
  cases x.ok with
  | true => rw [if_pos rfl, Bool.true_and]
  | false =>
    rw [if_neg (by decide), Bool.false_and]
    cases s with
    | nil => simp at hl
    | cons _ _ => rfl
def numsC (s : List UInt8) : List Int := [numAt s 5, numAt s 12, numAt s 14, numAt s 17, numAt s 20, numAt s 23]
set_option maxRecDepth 100000 in
theorem readDateS_c (s : ByteArray) : VC Tryz.prog 114 [.val (.string s)] (readV (sb s)) := by
  refine VC.intro hΘ Tryz.func114 rfl rfl Tryz.ntmps114 rfl rfl rfl fun B hB => ?_
  (conv => whnf)
  refine brm_ne (fun h => ?_) (fun h => ?_) <;> (conv => whnf)
  · rw [readV_no (by unfold readOk; rw [decide_eq_false (by intro e; exact h (by rw [e]; rfl))]; rfl)]
    exact vfin_tup2 rfl rfl
  have hl : (sb s).length = 29 := by omega
  refine vloop_intro hΘ hB (ι := Nat) (fun i => ⟨[(0, .val (.string s)), (2, .ptr 2 0), (4, .ptr 4 0), (5, .val (.int .i64 ((i + 1 : Nat) : Int)))], [(2, Dt.z.cs), (4, [.val (.int .i64 0), .val (.int .i64 (monS (cutL (sb s) 8 11) i)), .val (.int .i64 0), .val (.int .i64 0), .val (.int .i64 0), .val (.int .i64 0)])]⟩) (fun i => i ≤ 12) (fun i => 12 - i) 0
    ⟨⟨.inr rfl, .inr rfl, .inr rfl, .inr rfl, trivial⟩, ⟨⟨.inr rfl, .inr rfl, .inr rfl, .inr rfl, .inr rfl, .inr rfl, trivial⟩, ⟨.inr rfl, .inr rfl, .inr rfl, .inr rfl, .inr rfl, .inr rfl, trivial⟩, trivial⟩⟩ (Nat.zero_le _) ?_
  rintro i hi
  (conv => whnf)
  refine brm_p (fun h2 => ?_) (fun h2 => ?_) <;> (conv => whnf)
  · have hi12 : i < 12 := by omega
    refine vdraw_intro hΘ hB mixed (by kernel_rfl) ?_
    (conv => whnf)
    refine vcallQ_intro0 rfl (monName_c i hi12) (f1 (av rfl) f0) rfl ?_
    (conv => whnf)
    refine vrange_intro 8 11 rfl rfl (by decide) (by omega) ?_
    (conv => whnf)
    refine brm_eq (fun h3 => ?_) (fun h3 => ?_) <;> (conv => whnf)
    · have h3 : at3 moT i = cutL (sb s) 8 11 := h3
      exact ⟨i + 1, ⟨⟨.inr rfl, .inr rfl, .inr rfl, .inr (vint_eq (wrap_succ (by omega))), trivial⟩, ⟨⟨.inr rfl, .inr rfl, .inr rfl, .inr rfl, .inr rfl, .inr rfl, trivial⟩, ⟨.inr rfl, .inr (vint_eq (by rw [monS, if_pos h3]; rfl)), .inr rfl, .inr rfl, .inr rfl, .inr rfl, trivial⟩, trivial⟩⟩, hi12, by omega⟩
    · have h3 : ¬ at3 moT i = cutL (sb s) 8 11 := h3
      exact ⟨i + 1, ⟨⟨.inr rfl, .inr rfl, .inr rfl, .inr (vint_eq (wrap_succ (by omega))), trivial⟩, ⟨⟨.inr rfl, .inr rfl, .inr rfl, .inr rfl, .inr rfl, .inr rfl, trivial⟩, ⟨.inr rfl, .inr (vint_eq (by rw [monS, if_neg h3])), .inr rfl, .inr rfl, .inr rfl, .inr rfl, trivial⟩, trivial⟩⟩, hi12, by omega⟩
  have hi12 : i = 12 := by omega
  subst hi12
  refine vloop_intro hΘ hB (ι := Nat) (fun j => ⟨[(0, .val (.string s)), (2, .ptr 2 0), (4, .ptr 4 0), (6, .own 1 (((numsC (sb s)).take j).map intC1)), (28, .own 1 (posL.map intC1)), (29, .val (.int .i64 6)), (30, .val (.int .i64 j))], [(2, Dt.z.cs), (4, [.val (.int .i64 0), .val (.int .i64 (monS (cutL (sb s) 8 11) 12)), .val (.int .i64 0), .val (.int .i64 0), .val (.int .i64 0), .val (.int .i64 0)])]⟩) (fun j => j ≤ 6) (fun j => 6 - j) 0
    ⟨⟨.inr rfl, .inr rfl, .inr rfl, .inr rfl, .inr rfl, .inr rfl, .inr rfl, trivial⟩, ⟨⟨.inr rfl, .inr rfl, .inr rfl, .inr rfl, .inr rfl, .inr rfl, trivial⟩, ⟨.inr rfl, .inr rfl, .inr rfl, .inr rfl, .inr rfl, .inr rfl, trivial⟩, trivial⟩⟩ (Nat.zero_le _) ?_
  rintro j hj
  (conv => whnf)
  refine brm_p (fun h3 => ?_) (fun h3 => ?_) <;> (conv => whnf)
  · have hj6 : j < 6 := by omega
    obtain ⟨p, hp, hp1, hp2, hnum⟩ : ∃ p : Nat, posL[j]? = some (p : Int) ∧ 5 ≤ p ∧ p ≤ 23 ∧ (numsC (sb s)).take (j + 1) = (numsC (sb s)).take j ++ [numAt (sb s) p] := by
      have : j = 0 ∨ j = 1 ∨ j = 2 ∨ j = 3 ∨ j = 4 ∨ j = 5 := by omega
      rcases this with rfl | rfl | rfl | rfl | rfl | rfl
      · exact ⟨5, rfl, by decide, by decide, rfl⟩
      · exact ⟨12, rfl, by decide, by decide, rfl⟩
      · exact ⟨14, rfl, by decide, by decide, rfl⟩
      · exact ⟨17, rfl, by decide, by decide, rfl⟩
      · exact ⟨20, rfl, by decide, by decide, rfl⟩
      · exact ⟨23, rfl, by decide, by decide, rfl⟩
    have hat : (posL.map intC1)[j]? = some [C.v (.int .i64 (p : Int))] := by rw [List.getElem?_map, hp]; rfl
    refine vix_intro j rfl (by show j < 6; exact hj6) ?_
    (conv => whnf)
    refine vat_intro j _ rfl hat ?_
    (conv => whnf)
    refine vrange_intro p (p + 2) rfl (by rw [wrap_i64 (by omega) (by omega)]; omega) (by omega) (by omega) ?_
    (conv => whnf)
    have cd := digitsS_c (bs (cutL (sb s) p (p + 2))) (by rw [sb_bs]; unfold cutL; simp; omega)
    rw [sb_bs] at cd
    refine vcallS_intro0 rfl cd (f1 (av rfl) f0) ?_
    (conv => whnf)
    refine vreq_intro (by rw [List.length_map, List.length_take]; show (min j 6 + 1) * 9 ≤ _; omega) ?_
    (conv => whnf)
    exact ⟨j + 1, ⟨⟨.inr rfl, .inr rfl, .inr rfl, .inr (vown_eq (by rw [hnum, List.map_append]; rfl)), .inr rfl, .inr rfl, .inr (vint_eq (wrap_succ (by omega))), trivial⟩, ⟨⟨.inr rfl, .inr rfl, .inr rfl, .inr rfl, .inr rfl, .inr rfl, trivial⟩, ⟨.inr rfl, .inr rfl, .inr rfl, .inr rfl, .inr rfl, .inr rfl, trivial⟩, trivial⟩⟩, hj6, by omega⟩
  have hj6 : j = 6 := by omega
  subst hj6
  have n12 := numAt_le (sb s) 12
  have n14 := numAt_le (sb s) 14
  refine vix_intro 0 rfl (by show 0 < 6; decide) ?_
  (conv => whnf)
  refine vat_intro 0 (intC1 (numAt (sb s) 5)) rfl rfl ?_
  (conv => whnf)
  refine vdrawG_intro hΘ hB mixed 9 rfl rfl ?_
  (conv => whnf)
  refine vix_intro 1 rfl (by show 1 < 6; decide) ?_
  (conv => whnf)
  refine vat_intro 1 (intC1 (numAt (sb s) 12)) rfl rfl ?_
  (conv => whnf)
  refine vix_intro 2 rfl (by show 2 < 6; decide) ?_
  (conv => whnf)
  refine vat_intro 2 (intC1 (numAt (sb s) 14)) rfl rfl ?_
  (conv => whnf)
  refine ⟨rfl, ?_⟩
  (conv => whnf)
  refine vix_intro 3 rfl (by show 3 < 6; decide) ?_
  (conv => whnf)
  refine vat_intro 3 (intC1 (numAt (sb s) 17)) rfl rfl ?_
  (conv => whnf)
  refine vix_intro 4 rfl (by show 4 < 6; decide) ?_
  (conv => whnf)
  refine vat_intro 4 (intC1 (numAt (sb s) 20)) rfl rfl ?_
  (conv => whnf)
  refine vix_intro 5 rfl (by show 5 < 6; decide) ?_
  (conv => whnf)
  refine vat_intro 5 (intC1 (numAt (sb s) 23)) rfl rfl ?_
  (conv => whnf)
  have ey : IntKind.i64.wrap (IntKind.i64.wrap (100 * numAt (sb s) 12) + numAt (sb s) 14) = 100 * numAt (sb s) 12 + numAt (sb s) 14 := by rw [wrap_i64 (x := 100 * numAt (sb s) 12) (by omega) (by omega), wrap_i64 (by omega) (by omega)]
  rw [ey]
  have cs := showDateS_c (parS (sb s))
  refine call_l rfl cs (f1 (fa (l1 (fv rfl) (l1 (fv rfl) (l1 (fv rfl) (l1 (fv rfl) (l1 (fv rfl) (l1 (fv rfl) l0))))))) f0) fun y hy => ?_
  (conv => whnf)
  refine brm_ne' (fun h4 => ?_) (fun h4 => ?_) <;> (conv => whnf)
  · rw [readV_no (by
      unfold readOk
      rw [decide_eq_true hl, Bool.true_and, ← txt_shows hl, ← hy]
      rw [sb_bs] at h4; simpa using h4)]
    exact vfin_tup2 rfl rfl
  · rw [readV_yes (by
      unfold readOk
      rw [decide_eq_true hl, Bool.true_and, ← txt_shows hl, ← hy]
      rw [sb_bs] at h4; simpa using h4)]
    exact vfin_tup2 rfl rfl
theorem dateAt_c (s : ByteArray) (f t : Nat) (h1 : f ≤ t) (h2 : t ≤ (sb s).length) (hs : (sb s).length ≤ 140737488355328) : VC Tryz.prog 150 ([.val (.int .i64 f), .val (.int .i64 t)] ++ [.rp none [C.v (.string s)]]) (.val (.int .i64 ((digits (cutL (sb s) f t)).getD (-1)))) := by
  refine VC.intro hΘ Tryz.func150 rfl rfl Tryz.ntmps150 rfl rfl rfl fun B hB => ?_
  (conv => whnf)
  refine vrange_intro f t rfl rfl h1 h2 ?_
  (conv => whnf)
  have cd := digitsI_c (bs (cutL (sb s) f t)) (by rw [sb_bs]; unfold cutL; simp; omega)
  rw [sb_bs] at cd
  unfold digV at cd
  cases h : digits (cutL (sb s) f t) with
  | none =>
    rw [h] at cd
    refine vcallS_intro0 rfl cd (f1 (av rfl) f0) ?_
    (conv => whnf)
    exact vfin_int rfl
  | some v =>
    rw [h] at cd
    refine vcallS_intro0 rfl cd (f1 (av rfl) f0) ?_
    (conv => whnf)
    exact vfin_int rfl
theorem indexMon_c (sub : ByteArray) : VC Tryz.prog 151 [.val (.string ⟨#[74, 97, 110, 70, 101, 98, 77, 97, 114, 65, 112, 114, 77, 97, 121, 74, 117, 110, 74, 117, 108, 65, 117, 103, 83, 101, 112, 79, 99, 116, 78, 111, 118, 68, 101, 99]⟩), .val (.string sub)] (.val (.int .i64 (Lib.index moT (sb sub)))) :=
  VC.of_valsG (xs := [.string ⟨#[74, 97, 110, 70, 101, 98, 77, 97, 114, 65, 112, 114, 77, 97, 121, 74, 117, 110, 74, 117, 108, 65, 117, 103, 83, 101, 112, 79, 99, 116, 78, 111, 118, 68, 101, 99]⟩, .string sub]) (x := .int .i64 (Lib.index moT (sb sub))) Tryz.func151 rfl rfl rfl fun ow w hg => by
    obtain ⟨m, hm⟩ := GlD.max ow w hg
    exact (Tryz.strings_Index _ sub m w (by decide) hm).mono fun _ _ ⟨h1, h2⟩ => ⟨h1, h2 ▸ Go.RowKit.Below.refl _ _⟩
theorem index_mon_le (w : List UInt8) : -1 ≤ Lib.index moT w ∧ Lib.index moT w ≤ 36 := by
  refine ⟨Lib.index_ge _ _, ?_⟩
  by_cases h : 0 ≤ Lib.index moT w
  · have := Lib.index_room moT w h
    have : (moT.length : Int) = 36 := rfl
    omega
  · omega
set_option maxRecDepth 100000 in
theorem readDateI_c (s : ByteArray) (hs : (sb s).length ≤ 140737488355328) : VC Tryz.prog 116 [.val (.string s)] (readV (sb s)) := by
  refine VC.intro hΘ Tryz.func116 rfl rfl Tryz.ntmps116 rfl rfl rfl fun B hB => ?_
  (conv => whnf)
  refine brm_ne (fun h => ?_) (fun h => ?_) <;> (conv => whnf)
  · rw [readV_no (by unfold readOk; rw [decide_eq_false (by intro e; exact h (by rw [e]; rfl))]; rfl)]
    exact vfin_tup2 rfl rfl
  have hl : (sb s).length = 29 := by omega
  have hix := index_mon_le (cutL (sb s) 8 11)
  have emo : IntKind.i64.wrap (IntKind.i64.wrap ((Lib.index moT (cutL (sb s) 8 11)).tdiv 3) + 1) = (parI (sb s)).mo := by
    show _ = (Lib.index moT (cutL (sb s) 8 11)).tdiv 3 + 1
    have h1 : -1 ≤ (Lib.index moT (cutL (sb s) 8 11)).tdiv 3 ∧ (Lib.index moT (cutL (sb s) 8 11)).tdiv 3 ≤ 12 := by
      by_cases h0 : 0 ≤ Lib.index moT (cutL (sb s) 8 11)
      · rw [Int.tdiv_eq_ediv_of_nonneg h0]; omega
      · have : Lib.index moT (cutL (sb s) 8 11) = -1 := by omega
        rw [this]; decide
    rw [wrap_i64 (x := (Lib.index moT (cutL (sb s) 8 11)).tdiv 3) (by omega) (by omega), wrap_i64 (by omega) (by omega)]
  refine vdrawG_intro hΘ hB mixed 17 rfl rfl ?_
  (conv => whnf)
  refine vcallA_intro rfl (dateAt_c s 5 7 (by decide) (by omega) hs) (kp (pb rfl rfl) k0) (f1 (av rfl) (f1 (av rfl) f0)) ?_
  (conv => whnf)
  refine vrange_intro 8 11 rfl rfl (by decide) (by omega) ?_
  (conv => whnf)
  refine vcallA_intro0 rfl (indexMon_c (bs (cutL (sb s) 8 11))) (f1 (av rfl) (f1 (av rfl) f0)) ?_
  (conv => whnf)
  refine vreq_intro (by decide) ?_
  (conv => whnf)
  refine vcallA_intro rfl (dateAt_c s 12 16 (by decide) (by omega) hs) (kp (pb rfl rfl) k0) (f1 (av rfl) (f1 (av rfl) f0)) ?_
  (conv => whnf)
  refine vcallA_intro rfl (dateAt_c s 17 19 (by decide) (by omega) hs) (kp (pb rfl rfl) k0) (f1 (av rfl) (f1 (av rfl) f0)) ?_
  (conv => whnf)
  refine vcallA_intro rfl (dateAt_c s 20 22 (by decide) (by omega) hs) (kp (pb rfl rfl) k0) (f1 (av rfl) (f1 (av rfl) f0)) ?_
  (conv => whnf)
  refine vcallA_intro rfl (dateAt_c s 23 25 (by decide) (by omega) hs) (kp (pb rfl rfl) k0) (f1 (av rfl) (f1 (av rfl) f0)) ?_
  (conv => whnf)
  refine ⟨rfl, ?_⟩
  (conv => whnf)
  rw [sb_bs, emo]
  refine vdraw_intro hΘ hB mixed (by kernel_rfl) ?_
  (conv => whnf)
  refine callQ_bb rfl (dateOkI_c (parI (sb s))) (f1 (fa (l1 (fv rfl) (l1 (fv rfl) (l1 (fv rfl) (l1 (fv rfl) (l1 (fv rfl) (l1 (fv rfl) l0))))))) f0) (fun h3 => ?_) (fun h3 => ?_) <;> (conv => whnf)
  rotate_left
  · rw [readV_no (by
      unfold readOk
      rw [← shows_parI]
      unfold Dt.shows
      rw [h3]; simp)]
    exact vfin_tup2 rfl rfl
  refine callQ_l rfl (showDateI_c (parI (sb s))) (f1 (fa (l1 (fv rfl) (l1 (fv rfl) (l1 (fv rfl) (l1 (fv rfl) (l1 (fv rfl) (l1 (fv rfl) l0))))))) f0) fun y hy => ?_
  (conv => whnf)
  refine brm_ne' (fun h4 => ?_) (fun h4 => ?_) <;> (conv => whnf)
  · rw [readV_no (by
      unfold readOk
      rw [← shows_parI, decide_eq_true hl, Bool.true_and, ← txt_shows hl, ← hy]
      rw [sb_bs] at h4; simpa using h4)]
    exact vfin_tup2 rfl rfl
  · have hsh : (parI (sb s)).shows (sb s) = true := by
      rw [← txt_shows hl, ← hy]
      rw [sb_bs] at h4; simpa using h4
    rw [readV_yes (by unfold readOk; rw [← shows_parI, decide_eq_true hl, Bool.true_and]; exact hsh), ← parI_eq hsh]
    exact vfin_tup2 rfl rfl
end Go.Proofs.YtfdmlccbfbiloaaGreatDoor
namespace Go.Proofs.YtfdmlccbfbiloaaGreatDoor
open Go Go.Proofs.YtfdmlccbfbiloaaGreatDoor.Vs
variable [Gl]
set_option linter.unusedSectionVars false
variable [GlD]

/-! #### the moment of a field -/
def daN : ByteArray := ⟨#[100, 97, 116, 101]⟩
def agN : ByteArray := ⟨#[97, 103, 101]⟩
theorem moment_ge {x : Dt} (h : x.ok = true) : 0 ≤ x.moment ∧ x.moment ≤ 500000000000 := by
  obtain ⟨_, _, _, ⟨d1, d2⟩, ⟨e1, e2⟩, f1', f2⟩ := ok_iff.1 h
  have hd := days_le h
  unfold Dt.moment
  rw [if_pos h]
  omega
theorem readOk_ok {s : List UInt8} (h : readOk s = true) : (parS s).ok = true := by
  unfold readOk Dt.shows at h
  simp only [Bool.and_eq_true] at h
  exact h.2.1
theorem dateB_yes {s : List UInt8} (h : readOk s = true) : dateB s = (parS s).moment := by unfold dateB readD; rw [h]; rfl
theorem dateB_no {s : List UInt8} (h : readOk s = false) : dateB s = -1 := by unfold dateB; rw [h]; rfl
theorem dateB_le (s : List UInt8) : -1 ≤ dateB s ∧ dateB s ≤ 500000000000 := by
  cases h : readOk s with
  | false => rw [dateB_no h]; omega
  | true => rw [dateB_yes h]; have := moment_ge (readOk_ok h); omega
theorem dateB_ge (s : List UInt8) : decide (dateB s ≥ 0) = readOk s := by
  cases h : readOk s with
  | false => rw [dateB_no h]; rfl
  | true => rw [dateB_yes h]; have := moment_ge (readOk_ok h); exact decide_eq_true this.1
theorem l10Date_c (xs : List Fd) (n : ByteArray) (hx : ∀ x ∈ xs, szOk x) (hn : (sb n).length ≤ 140737488355328) (hok : fieldsOk xs = true) : VC Tryz.prog 77 [rdF xs, .val (.string n)] (.val (.int .i64 (dateB (fieldT n xs)))) := by
  have c1 := l4Get_c xs n hx hn (fieldsOk_len hok)
  rw [getF_eq] at c1
  generalize fieldT n xs = J at c1 ⊢
  have c2 := readDateS_c (bs J)
  rw [sb_bs] at c2
  refine VC.intro hΘ Tryz.func77 rfl rfl Tryz.ntmps77 rfl rfl rfl fun B hB => ?_
  (conv => whnf)
  refine vcallS_intro0 rfl c1 (f1 (ar rfl rfl) (f1 (av rfl) f0)) ?_
  (conv => whnf)
  cases h : readOk J with
  | false =>
    rw [readV_no h] at c2
    refine vcallS_intro0 rfl c2 (f1 (av rfl) f0) ?_
    (conv => whnf)
    exact vfin_int (dateB_no h).symm
  | true =>
    rw [readV_yes h] at c2
    refine vcallS_intro0 rfl c2 (f1 (av rfl) f0) ?_
    (conv => whnf)
    refine vcallS_intro0 rfl (momentS_c (parS J)) (f1 (fa (l1 (fv rfl) (l1 (fv rfl) (l1 (fv rfl) (l1 (fv rfl) (l1 (fv rfl) (l1 (fv rfl) l0))))))) f0) ?_
    (conv => whnf)
    exact vfin_int (dateB_yes h).symm
def dateV (s : List UInt8) : V := .tup [.val (.int .i64 (dateB s)), .val (.bool (readOk s))]
theorem dateOf_c (xs : List Fd) (n : ByteArray) (hx : ∀ x ∈ xs, szOk x) (hn : (sb n).length ≤ 140737488355328) (hok : fieldsOk xs = true) : VC Tryz.prog 81 [rdF xs, .val (.string n)] (dateV (fieldT n xs)) := by
  have c1 := getI_c xs n hx hn hok
  rw [getF_eq] at c1
  have hl := fieldT_len (n := n) hok
  generalize fieldT n xs = J at c1 hl ⊢
  have c2 := readDateI_c (bs J) (by rw [sb_bs]; exact hl)
  rw [sb_bs] at c2
  refine VC.intro hΘ Tryz.func81 rfl rfl Tryz.ntmps81 rfl rfl rfl fun B hB => ?_
  (conv => whnf)
  refine vcallS_intro0 rfl c1 (f1 (ar rfl rfl) (f1 (av rfl) f0)) ?_
  (conv => whnf)
  unfold dateV
  cases h : readOk J with
  | false =>
    rw [readV_no h] at c2
    refine vcallS_intro0 rfl c2 (f1 (av rfl) f0) ?_
    (conv => whnf)
    refine vcallS_intro0 rfl (momentI_c Dt.z) (f1 (fa (l1 (fv rfl) (l1 (fv rfl) (l1 (fv rfl) (l1 (fv rfl) (l1 (fv rfl) (l1 (fv rfl) l0))))))) f0) ?_
    (conv => whnf)
    refine vfin_tup2 ?_ rfl
    rw [dateB_no h]; rfl
  | true =>
    rw [readV_yes h] at c2
    refine vcallS_intro0 rfl c2 (f1 (av rfl) f0) ?_
    (conv => whnf)
    refine vcallS_intro0 rfl (momentI_c (parS J)) (f1 (fa (l1 (fv rfl) (l1 (fv rfl) (l1 (fv rfl) (l1 (fv rfl) (l1 (fv rfl) (l1 (fv rfl) l0))))))) f0) ?_
    (conv => whnf)
    refine vfin_tup2 ?_ rfl
    rw [dateB_yes h]

/-! #### how old an object is -/
theorem maxS_c (x y : Int) : VC Tryz.prog 78 [.val (.int .i64 x), .val (.int .i64 y)] (.val (.int .i64 (max x y))) := by
  refine VC.intro hΘ Tryz.func78 rfl rfl Tryz.ntmps78 rfl rfl rfl fun B hB => ?_
  (conv => whnf)
  refine brm_p (fun h => ?_) (fun h => ?_) <;> (conv => whnf)
  · exact vfin_int (by omega)
  · exact vfin_int (by omega)
theorem if_max (a b : Int) : (if b > a then b else a) = max a b := by split <;> omega
theorem if_min (a b : Int) : (if b < a then b else a) = min a b := by split <;> omega
def app (o : Obj) : Int := if readOk (fieldT daN o.r.fs) then max 0 (o.got - dateB (fieldT daN o.r.fs)) else 0
def tld (o : Obj) : Int := (digits (fieldT agN o.r.fs)).getD 0
def ageA (o : Obj) (now : Int) : Int := if ((o.good && inR now 0 253402300799) && decide (o.got ≤ now)) = true then min secM (max (app o) (tld o + o.got - o.asked) + now - o.got) else -1
theorem tld_le (o : Obj) : 0 ≤ tld o ∧ tld o ≤ 1000000000000000 := by
  unfold tld
  cases h : digits (fieldT agN o.r.fs) with
  | none => exact ⟨by decide, by decide⟩
  | some v => have := digits_le h; simp only [Option.getD_some]; omega
theorem app_le {o : Obj} (h : 0 ≤ o.got ∧ o.got ≤ 253402300799) : 0 ≤ app o ∧ app o ≤ 1000000000000 := by
  have := dateB_le (fieldT daN o.r.fs)
  unfold app
  split <;> omega
theorem got_of {o : Obj} (h : o.good = true) : (0 ≤ o.asked ∧ o.asked ≤ 253402300799) ∧ (0 ≤ o.got ∧ o.got ≤ 253402300799) ∧ o.asked ≤ o.got := by
  unfold Obj.good at h
  simp only [Bool.and_eq_true, inR, decide_eq_true_eq] at h
  omega
theorem ageA_no {o : Obj} {now : Int} (h : ¬ (o.good = true ∧ inR now 0 253402300799 = true ∧ o.got ≤ now)) : ageA o now = -1 := by
  unfold ageA
  rw [if_neg]
  simp only [Bool.and_eq_true, decide_eq_true_eq]
  exact fun e => h ⟨e.1.1, e.1.2, e.2⟩
theorem ageA_yes {o : Obj} {now : Int} (h1 : o.good = true) (h2 : inR now 0 253402300799 = true) (h3 : o.got ≤ now) : ageA o now = min secM (max (app o) (tld o + o.got - o.asked) + now - o.got) := by
  unfold ageA
  rw [if_pos]
  simp only [Bool.and_eq_true, decide_eq_true_eq]
  exact ⟨⟨h1, h2⟩, h3⟩
set_option maxRecDepth 100000 in
theorem ageAtI_c (o : Obj) (now : Int) (ho : o.ok) : VC Tryz.prog 40 [o.rd, .val (.int .i64 now)] (.val (.int .i64 (ageA o now))) := by
  refine VC.intro hΘ Tryz.func40 rfl rfl Tryz.ntmps40 rfl rfl rfl fun B hB => ?_
  (conv => whnf)
  refine call_bb rfl (objectOkI_c o ho) (f1 (fa (l1 (fv rfl) (l1 (fr rfl rfl) (l1 (fv rfl) (l1 (fr rfl rfl) (l1 (fv rfl) (l1 (fv rfl) (l1 (fv rfl) (l1 (fv rfl) l0))))))))) f0) (fun h1 => ?_) (fun h1 => ?_) <;> (conv => whnf)
  rotate_left
  · exact vfin_int (by rw [ageA_no]; rw [h1]; simp)
  refine call_bb rfl (isMoment_c now) (f1 (av rfl) f0) (fun h2 => ?_) (fun h2 => ?_) <;> (conv => whnf)
  rotate_left
  · exact vfin_int (by rw [ageA_no]; rw [h2]; simp)
  refine brm_p (fun h3 => ?_) (fun h3 => ?_) <;> (conv => whnf)
  · exact vfin_int (by rw [ageA_no]; intro e; omega)
  rw [ageA_yes h1 h2 (by omega)]
  have hf := (good_fs h1).2
  have hnow : 0 ≤ now ∧ now ≤ 253402300799 := by simpa [inR] using h2
  obtain ⟨⟨g1, g2⟩, ⟨g3, g4⟩, g5⟩ := got_of h1
  have ct := tld_le o
  have ca := app_le (o := o) ⟨g3, g4⟩
  have cd := dateOf_c o.r.fs daN ho.2.2.1.2 (by decide) hf
  have cg := getI_c o.r.fs agN ho.2.2.1.2 (by decide) hf
  rw [getF_eq] at cg
  have cn := digitsI_c (bs (fieldT agN o.r.fs)) (by rw [sb_bs]; exact fieldT_len hf)
  rw [sb_bs] at cn
  unfold digV at cn
  have ht : (digits (fieldT agN o.r.fs)).getD 0 = tld o := rfl
  rw [ht] at cn
  have hdl := dateB_le (fieldT daN o.r.fs)
  unfold dateV at cd
  have happ : app o = if readOk (fieldT daN o.r.fs) then max 0 (o.got - dateB (fieldT daN o.r.fs)) else 0 := rfl
  generalize dateB (fieldT daN o.r.fs) = dt at cd hdl happ
  generalize (digits (fieldT agN o.r.fs)).isSome = tb at cn
  generalize hasF agN o.r.fs = hb at cg
  generalize fieldT agN o.r.fs = J at cg cn
  generalize tld o = tl at cn ct ⊢
  generalize app o = ap at ca happ ⊢
  cases hr : readOk (fieldT daN o.r.fs) with
  | false =>
    rw [hr] at cd happ
    refine vcallS_intro0 rfl cd (f1 (ar rfl rfl) (f1 (av rfl) f0)) ?_
    (conv => whnf)
    refine vcallS_intro0 rfl cg (f1 (ar rfl rfl) (f1 (av rfl) f0)) ?_
    (conv => whnf)
    refine vcallS_intro0 rfl cn (f1 (av rfl) f0) ?_
    (conv => whnf)
    refine vfin_int ?_
    have happ : ap = 0 := happ
    rw [wrap_i64 (x := tl + o.got) (by omega) (by omega), wrap_i64 (x := tl + o.got - o.asked) (by omega) (by omega), if_max, ← happ, wrap_i64 (x := max ap (tl + o.got - o.asked) + now) (by omega) (by omega), wrap_i64 (by omega) (by omega), if_min]
    rfl
  | true =>
    rw [hr] at cd happ
    refine vcallS_intro0 rfl cd (f1 (ar rfl rfl) (f1 (av rfl) f0)) ?_
    (conv => whnf)
    refine vcallS_intro0 rfl cg (f1 (ar rfl rfl) (f1 (av rfl) f0)) ?_
    (conv => whnf)
    refine vcallS_intro0 rfl cn (f1 (av rfl) f0) ?_
    (conv => whnf)
    refine vfin_int ?_
    have happ : ap = max 0 (o.got - dt) := happ
    rw [wrap_i64 (x := o.got - dt) (by omega) (by omega), if_max 0, ← happ, wrap_i64 (x := tl + o.got) (by omega) (by omega), wrap_i64 (x := tl + o.got - o.asked) (by omega) (by omega), if_max, wrap_i64 (x := max ap (tl + o.got - o.asked) + now) (by omega) (by omega), wrap_i64 (by omega) (by omega), if_min]
    rfl
set_option maxRecDepth 100000 in
theorem ageAtS_c (o : Obj) (now : Int) (m : Nat) (ho : o.ok) (hv : ∀ x ∈ o.r.fs, (sb x.2).length ≤ m) (hl : o.r.fs.length * (m + 2) ≤ 4222124650659900) : VC Tryz.prog 39 [o.rd, .val (.int .i64 now)] (.val (.int .i64 (ageA o now))) := by
  refine VC.intro hΘ Tryz.func39 rfl rfl Tryz.ntmps39 rfl rfl rfl fun B hB => ?_
  (conv => whnf)
  refine call_bb rfl (objectOkS_c o m ho hv hl) (f1 (fa (l1 (fv rfl) (l1 (fr rfl rfl) (l1 (fv rfl) (l1 (fr rfl rfl) (l1 (fv rfl) (l1 (fv rfl) (l1 (fv rfl) (l1 (fv rfl) l0))))))))) f0) (fun h1 => ?_) (fun h1 => ?_) <;> (conv => whnf)
  rotate_left
  · exact vfin_int (by rw [ageA_no]; rw [h1]; simp)
  refine call_bb rfl (l10Moment_c now) (f1 (av rfl) f0) (fun h2 => ?_) (fun h2 => ?_) <;> (conv => whnf)
  rotate_left
  · exact vfin_int (by rw [ageA_no]; rw [h2]; simp)
  refine brm_p (fun h3 => ?_) (fun h3 => ?_) <;> (conv => whnf)
  · exact vfin_int (by rw [ageA_no]; intro e; omega)
  rw [ageA_yes h1 h2 (by omega)]
  have hf := (good_fs h1).2
  have hnow : 0 ≤ now ∧ now ≤ 253402300799 := by simpa [inR] using h2
  obtain ⟨⟨g1, g2⟩, ⟨g3, g4⟩, g5⟩ := got_of h1
  have ct := tld_le o
  have ca := app_le (o := o) ⟨g3, g4⟩
  have cd := l10Date_c o.r.fs daN ho.2.2.1.2 (by decide) hf
  have cg := l4Get_c o.r.fs agN ho.2.2.1.2 (by decide) (fieldsOk_len hf)
  rw [getF_eq] at cg
  have cn := digitsS_c (bs (fieldT agN o.r.fs)) (by rw [sb_bs]; exact fieldT_len hf)
  rw [sb_bs] at cn
  unfold digV at cn
  have ht : (digits (fieldT agN o.r.fs)).getD 0 = tld o := rfl
  rw [ht] at cn
  have hdl := dateB_le (fieldT daN o.r.fs)
  have hge := dateB_ge (fieldT daN o.r.fs)
  have happ : app o = if readOk (fieldT daN o.r.fs) then max 0 (o.got - dateB (fieldT daN o.r.fs)) else 0 := rfl
  rw [← hge] at happ
  generalize dateB (fieldT daN o.r.fs) = dt at cd hdl happ
  generalize (digits (fieldT agN o.r.fs)).isSome = tb at cn
  generalize hasF agN o.r.fs = hb at cg
  generalize fieldT agN o.r.fs = J at cg cn
  generalize tld o = tl at cn ct ⊢
  generalize app o = ap at ca happ ⊢
  refine vcallS_intro0 rfl cg (f1 (ar rfl rfl) (f1 (av rfl) f0)) ?_
  (conv => whnf)
  refine vcallS_intro0 rfl cn (f1 (av rfl) f0) ?_
  (conv => whnf)
  refine vcallS_intro0 rfl cd (f1 (ar rfl rfl) (f1 (av rfl) f0)) ?_
  (conv => whnf)
  refine brm_p (fun h4 => ?_) (fun h4 => ?_) <;> (conv => whnf)
  · rw [decide_eq_true h4, if_pos rfl] at happ
    refine vcallS_intro0 rfl (maxS_c 0 (IntKind.i64.wrap (o.got - dt))) (f1 (av rfl) (f1 (av rfl) f0)) ?_
    (conv => whnf)
    rw [wrap_i64 (x := o.got - dt) (by omega) (by omega), ← happ]
    refine vdraw_intro hΘ hB mixed (by kernel_rfl) ?_
    (conv => whnf)
    refine callQ_i rfl (maxS_c ap (IntKind.i64.wrap (IntKind.i64.wrap (tl + o.got) - o.asked))) (f1 (av rfl) (f1 (av rfl) f0)) fun y hy => ?_
    (conv => whnf)
    rw [wrap_i64 (x := tl + o.got) (by omega) (by omega), wrap_i64 (x := tl + o.got - o.asked) (by omega) (by omega)] at hy
    refine callQ_i rfl (minS_c 1000000000 (IntKind.i64.wrap (IntKind.i64.wrap (y + now) - o.got))) (f1 (av rfl) (f1 (av rfl) f0)) fun z hz => ?_
    (conv => whnf)
    refine vfin_int ?_
    rw [hz, hy, wrap_i64 (x := max ap (tl + o.got - o.asked) + now) (by omega) (by omega), wrap_i64 (by omega) (by omega)]
    rfl
  · rw [decide_eq_false h4, if_neg (by decide)] at happ
    refine vdraw_intro hΘ hB mixed (by kernel_rfl) ?_
    (conv => whnf)
    refine callQ_i rfl (maxS_c 0 (IntKind.i64.wrap (IntKind.i64.wrap (tl + o.got) - o.asked))) (f1 (av rfl) (f1 (av rfl) f0)) fun y hy => ?_
    (conv => whnf)
    rw [wrap_i64 (x := tl + o.got) (by omega) (by omega), wrap_i64 (x := tl + o.got - o.asked) (by omega) (by omega), ← happ] at hy
    refine callQ_i rfl (minS_c 1000000000 (IntKind.i64.wrap (IntKind.i64.wrap (y + now) - o.got))) (f1 (av rfl) (f1 (av rfl) f0)) fun z hz => ?_
    (conv => whnf)
    refine vfin_int ?_
    rw [hz, hy, wrap_i64 (x := max ap (tl + o.got - o.asked) + now) (by omega) (by omega), wrap_i64 (by omega) (by omega)]
    rfl
end Go.Proofs.YtfdmlccbfbiloaaGreatDoor
namespace Go.Proofs.YtfdmlccbfbiloaaGreatDoor
open Go Go.Proofs.YtfdmlccbfbiloaaGreatDoor.Vs
variable [Gl]
set_option linter.unusedSectionVars false
variable [GlD]

/-! #### how long a response is fresh -/
def life0 (fs : List Fd) : Int := if (ctlF fs).sh ≥ 0 then (ctlF fs).sh else if (ctlF fs).ma ≥ 0 then (ctlF fs).ma else if (readOk (fieldT exN fs) && readOk (fieldT daN fs)) = true then max 0 (dateB (fieldT exN fs) - dateB (fieldT daN fs)) else 0
def lifeA (r : Rsp) : Int := if r.good then life0 r.fs else -1
set_option maxRecDepth 100000 in
theorem lifetime0_c (r : Rsp) (hr : r.ok) (hg : r.good = true) : VC Tryz.prog 84 [r.rd] (.val (.int .i64 (life0 r.fs))) := by
  have hf := goodR_fs hg
  have cc := controlI_c r.fs hr.1.2 hf
  have ce := dateOf_c r.fs exN hr.1.2 (by decide) hf
  have cd := dateOf_c r.fs daN hr.1.2 (by decide) hf
  unfold dateV at ce cd
  unfold life0
  have l1 := dateB_le (fieldT exN r.fs)
  have l2 := dateB_le (fieldT daN r.fs)
  generalize dateB (fieldT exN r.fs) = e1 at ce l1 ⊢
  generalize dateB (fieldT daN r.fs) = d1 at cd l2 ⊢
  generalize readOk (fieldT exN r.fs) = eb at ce ⊢
  generalize readOk (fieldT daN r.fs) = db at cd ⊢
  generalize ctlF r.fs = k at cc ⊢
  obtain ⟨ma, sh, st, ns, nc, pr, mu⟩ := k
  refine VC.intro hΘ Tryz.func84 rfl rfl Tryz.ntmps84 rfl rfl rfl fun B hB => ?_
  (conv => whnf)
  refine vcallS_intro0 rfl cc (f1 (ar rfl rfl) f0) ?_
  (conv => whnf)
  refine vcallS_intro0 rfl ce (f1 (ar rfl rfl) (f1 (av rfl) f0)) ?_
  (conv => whnf)
  refine vcallS_intro0 rfl cd (f1 (ar rfl rfl) (f1 (av rfl) f0)) ?_
  (conv => whnf)
  refine brm_p (fun h1 => ?_) (fun h1 => ?_) <;> (conv => whnf)
  · have h1 : sh ≥ 0 := h1
    exact vfin_int (by simp only [if_pos h1])
  have h1 : ¬ sh ≥ 0 := h1
  refine brm_p (fun h2 => ?_) (fun h2 => ?_) <;> (conv => whnf)
  · have h2 : ma ≥ 0 := h2
    exact vfin_int (by simp only [if_neg h1, if_pos h2])
  have h2 : ¬ ma ≥ 0 := h2
  simp only [if_neg h1, if_neg h2]
  cases eb with
  | false =>
    (conv => whnf)
    exact vfin_int rfl
  | true =>
    cases db with
    | false =>
      (conv => whnf)
      exact vfin_int rfl
    | true =>
      (conv => whnf)
      refine vfin_int ?_
      rw [wrap_i64 (x := e1 - d1) (by omega) (by omega), if_max 0]
      rfl
theorem lifetimeI_c (r : Rsp) (hr : r.ok) : VC Tryz.prog 42 [r.rd] (.val (.int .i64 (lifeA r))) := by
  refine VC.intro hΘ Tryz.func42 rfl rfl Tryz.ntmps42 rfl rfl rfl fun B hB => ?_
  (conv => whnf)
  refine call_bb rfl (responseOkI_c r hr) (f1 (fa (l1 (fv rfl) (l1 (fr rfl rfl) (l1 (fv rfl) l0)))) f0) (fun h => ?_) (fun h => ?_) <;> (conv => whnf)
  · refine vcallS_intro0 rfl (lifetime0_c r hr h) (f1 (fa (l1 (fv rfl) (l1 (fr rfl rfl) (l1 (fv rfl) l0)))) f0) ?_
    (conv => whnf)
    exact vfin_int (by unfold lifeA; rw [h]; rfl)
  · exact vfin_int (by unfold lifeA; rw [h]; rfl)
set_option maxRecDepth 100000 in
theorem lifetimeS_c (r : Rsp) (m : Nat) (hr : r.ok) (hv : ∀ x ∈ r.fs, (sb x.2).length ≤ m) (hl : r.fs.length * (m + 2) ≤ 4222124650659900) : VC Tryz.prog 41 [r.rd] (.val (.int .i64 (lifeA r))) := by
  refine VC.intro hΘ Tryz.func41 rfl rfl Tryz.ntmps41 rfl rfl rfl fun B hB => ?_
  (conv => whnf)
  refine call_bb rfl (responseOkS_c r m hr hv hl) (f1 (fa (l1 (fv rfl) (l1 (fr rfl rfl) (l1 (fv rfl) l0)))) f0) (fun h => ?_) (fun h => ?_) <;> (conv => whnf)
  rotate_left
  · exact vfin_int (by unfold lifeA; rw [h]; rfl)
  have hT : lifeA r = life0 r.fs := by unfold lifeA; rw [h]; rfl
  rw [hT]
  have hf := goodR_fs h
  have cc := controlS_c r.fs hr.1.2 hf
  have ce := l10Date_c r.fs exN hr.1.2 (by decide) hf
  have cd := l10Date_c r.fs daN hr.1.2 (by decide) hf
  unfold life0
  have l1' := dateB_le (fieldT exN r.fs)
  have l2 := dateB_le (fieldT daN r.fs)
  rw [← dateB_ge (fieldT exN r.fs), ← dateB_ge (fieldT daN r.fs)]
  generalize dateB (fieldT exN r.fs) = e1 at ce l1' ⊢
  generalize dateB (fieldT daN r.fs) = d1 at cd l2 ⊢
  generalize ctlF r.fs = k at cc ⊢
  obtain ⟨ma, sh, st, ns, nc, pr, mu⟩ := k
  refine vcallS_intro0 rfl cc (f1 (ar rfl rfl) f0) ?_
  (conv => whnf)
  refine vcallS_intro0 rfl ce (f1 (ar rfl rfl) (f1 (av rfl) f0)) ?_
  (conv => whnf)
  refine vcallS_intro0 rfl cd (f1 (ar rfl rfl) (f1 (av rfl) f0)) ?_
  (conv => whnf)
  refine brm_p (fun h1 => ?_) (fun h1 => ?_) <;> (conv => whnf)
  · have h1 : sh ≥ 0 := h1
    exact vfin_int (by simp only [if_pos h1])
  have h1 : ¬ sh ≥ 0 := h1
  refine brm_p (fun h2 => ?_) (fun h2 => ?_) <;> (conv => whnf)
  · have h2 : ma ≥ 0 := h2
    exact vfin_int (by simp only [if_neg h1, if_pos h2])
  have h2 : ¬ ma ≥ 0 := h2
  simp only [if_neg h1, if_neg h2]
  refine brm_p (fun h3 => ?_) (fun h3 => ?_) <;> (conv => whnf)
  · rw [decide_eq_true h3]
    refine brm_p (fun h4 => ?_) (fun h4 => ?_) <;> (conv => whnf)
    · rw [decide_eq_true h4]
      refine vcallS_intro0 rfl (maxS_c 0 (IntKind.i64.wrap (e1 - d1))) (f1 (av rfl) (f1 (av rfl) f0)) ?_
      (conv => whnf)
      refine vfin_int ?_
      rw [wrap_i64 (x := e1 - d1) (by omega) (by omega)]
      rfl
    · rw [decide_eq_false h4]
      exact vfin_int rfl
  · rw [decide_eq_false h3]
    exact vfin_int rfl

/-! #### is it fresh? -/
def freshB (o : Obj) (now : Int) : Bool := (decide (ageA o now ≥ 0) && decide (ageA o now < lifeA o.r)) && !(ctlF o.r.fs).nc
theorem age_good {o : Obj} {now : Int} (h : ageA o now ≥ 0) : o.good = true := by
  cases hg : o.good with
  | true => rfl
  | false => rw [ageA_no (by rw [hg]; simp)] at h; omega
theorem good_r {o : Obj} (h : o.good = true) : o.r.good = true := by
  unfold Obj.good at h
  simp only [Bool.and_eq_true] at h
  exact h.1.1.1.1.2
theorem freshAtI_c (o : Obj) (now : Int) (ho : o.ok) : VC Tryz.prog 44 [o.rd, .val (.int .i64 now)] (.val (.bool (freshB o now))) := by
  refine VC.intro hΘ Tryz.func44 rfl rfl Tryz.ntmps44 rfl rfl rfl fun B hB => ?_
  (conv => whnf)
  refine call_i rfl (ageAtI_c o now ho) (f1 (fa (l1 (fv rfl) (l1 (fr rfl rfl) (l1 (fv rfl) (l1 (fr rfl rfl) (l1 (fv rfl) (l1 (fv rfl) (l1 (fv rfl) (l1 (fv rfl) l0))))))))) (f1 (av rfl) f0)) fun a ha => ?_
  (conv => whnf)
  unfold freshB
  refine brm_p (fun h1 => ?_) (fun h1 => ?_) <;> (conv => whnf)
  rotate_left
  · rw [ha] at h1
    exact vfin_bool (by rw [decide_eq_false h1]; rfl)
  have hg := age_good (o := o) (now := now) (by rw [← ha]; exact h1)
  rw [← ha, decide_eq_true h1, Bool.true_and]
  have hL : lifeA o.r = life0 o.r.fs := by unfold lifeA; rw [good_r hg]; rfl
  rw [hL]
  refine call_i rfl (lifetime0_c o.r ho.2.2 (good_r hg)) (f1 (fa (l1 (fv rfl) (l1 (fr rfl rfl) (l1 (fv rfl) l0)))) f0) fun l hl => ?_
  (conv => whnf)
  rw [← hl]
  refine brm_p (fun h2 => ?_) (fun h2 => ?_) <;> (conv => whnf)
  rotate_left
  · exact vfin_bool (by rw [decide_eq_false h2]; rfl)
  rw [decide_eq_true h2, Bool.true_and]
  have cc := controlI_c o.r.fs ho.2.2.1.2 (good_fs hg).2
  generalize ctlF o.r.fs = k at cc ⊢
  obtain ⟨ma, sh, st, ns, nc, pr, mu⟩ := k
  refine vcallS_intro0 rfl cc (f1 (ar rfl rfl) f0) ?_
  (conv => whnf)
  exact vfin_bool rfl
theorem freshAtS_c (o : Obj) (now : Int) (m : Nat) (ho : o.ok) (hv : ∀ x ∈ o.r.fs, (sb x.2).length ≤ m) (hlm : o.r.fs.length * (m + 2) ≤ 4222124650659900) : VC Tryz.prog 43 [o.rd, .val (.int .i64 now)] (.val (.bool (freshB o now))) := by
  refine VC.intro hΘ Tryz.func43 rfl rfl Tryz.ntmps43 rfl rfl rfl fun B hB => ?_
  (conv => whnf)
  refine call_i rfl (ageAtS_c o now m ho hv hlm) (f1 (fa (l1 (fv rfl) (l1 (fr rfl rfl) (l1 (fv rfl) (l1 (fr rfl rfl) (l1 (fv rfl) (l1 (fv rfl) (l1 (fv rfl) (l1 (fv rfl) l0))))))))) (f1 (av rfl) f0)) fun a ha => ?_
  (conv => whnf)
  unfold freshB
  refine brm_p (fun h1 => ?_) (fun h1 => ?_) <;> (conv => whnf)
  rotate_left
  · rw [ha] at h1
    exact vfin_bool (by rw [decide_eq_false h1]; rfl)
  have hg := age_good (o := o) (now := now) (by rw [← ha]; exact h1)
  rw [← ha, decide_eq_true h1, Bool.true_and]
  refine call_i rfl (lifetimeS_c o.r m ho.2.2 hv hlm) (f1 (fa (l1 (fv rfl) (l1 (fr rfl rfl) (l1 (fv rfl) l0)))) f0) fun l hl => ?_
  (conv => whnf)
  rw [← hl]
  refine brm_p (fun h2 => ?_) (fun h2 => ?_) <;> (conv => whnf)
  rotate_left
  · exact vfin_bool (by rw [decide_eq_false h2]; rfl)
  rw [decide_eq_true h2, Bool.true_and]
  have cc := controlS_c o.r.fs ho.2.2.1.2 (good_fs hg).2
  generalize ctlF o.r.fs = k at cc ⊢
  obtain ⟨ma, sh, st, ns, nc, pr, mu⟩ := k
  refine vcallS_intro0 rfl cc (f1 (ar rfl rfl) f0) ?_
  (conv => whnf)
  exact vfin_bool rfl
end Go.Proofs.YtfdmlccbfbiloaaGreatDoor
namespace Go.Proofs.YtfdmlccbfbiloaaGreatDoor
open Go Go.Proofs.YtfdmlccbfbiloaaGreatDoor.Vs
variable [Gl]
set_option linter.unusedSectionVars false
variable [GlD]

set_option maxRecDepth 100000 in
theorem freshAt_law (o : Obj) (now : Int) (ho : o.ok) : VC Tryz.prog 9 [o.rd, .val (.int .i64 now)] (.val (.bool true)) := by
  refine VC.intro hΘ Tryz.func9 rfl rfl Tryz.ntmps9 rfl rfl rfl fun B hB => ?_
  (conv => whnf)
  refine call_i (x := szO 1048576 o) rfl (szObject_c o 1048576 (by decide) (by decide) ho) (f1 (fa (l1 (fv rfl) (l1 (fr rfl rfl) (l1 (fv rfl) (l1 (fr rfl rfl) (l1 (fv rfl) (l1 (fv rfl) (l1 (fv rfl) (l1 (fv rfl) l0))))))))) (f1 (av rfl) f0)) fun l hl => ?_
  (conv => whnf)
  refine brm_p (fun h => ?_) (fun h => ?_) <;> (conv => whnf)
  · exact vfin_bool rfl
  rw [hl] at h
  obtain ⟨⟨s1, s2⟩, ⟨s3, s4⟩, _⟩ := szO_small (by decide) h
  clear hl h
  have cS := freshAtS_c o now 1048576 ho s4 (by omega)
  have cI := freshAtI_c o now ho
  generalize freshB o now = b at cS cI
  have o1 : o.fs.length ≤ 2097152 := by omega
  have o2 : o.r.fs.length ≤ 2097152 := by omega
  refine vcallS_intro0 rfl (toObject_c o o1 o2) (f1 (fa (l1 (fv rfl) (l1 (fr rfl rfl) (l1 (fv rfl) (l1 (fr rfl rfl) (l1 (fv rfl) (l1 (fv rfl) (l1 (fv rfl) (l1 (fv rfl) l0))))))))) f0) ?_
  (conv => whnf)
  refine vcallS_intro0 rfl cS (f1 (fa (l1 (fv rfl) (l1 (fh rfl rfl rfl) (l1 (fv rfl) (l1 (fh rfl rfl rfl) (l1 (fv rfl) (l1 (fv rfl) (l1 (fv rfl) (l1 (fv rfl) l0))))))))) (f1 (av rfl) f0)) ?_
  (conv => whnf)
  refine vcallS_intro0 rfl (toObject_c o o1 o2) (f1 (fa (l1 (fv rfl) (l1 (fr rfl rfl) (l1 (fv rfl) (l1 (fr rfl rfl) (l1 (fv rfl) (l1 (fv rfl) (l1 (fv rfl) (l1 (fv rfl) l0))))))))) f0) ?_
  (conv => whnf)
  refine vcallS_intro0 rfl cI (f1 (fa (l1 (fv rfl) (l1 (fh rfl rfl rfl) (l1 (fv rfl) (l1 (fh rfl rfl rfl) (l1 (fv rfl) (l1 (fv rfl) (l1 (fv rfl) (l1 (fv rfl) l0))))))))) (f1 (av rfl) f0)) ?_
  (conv => whnf)
  refine brm_ne (fun h => absurd rfl h) (fun _ => ?_)
  (conv => whnf)
  refine vdrawG_intro hΘ hB mixed 5 rfl rfl ?_
  (conv => whnf)
  refine vcallA_intro0 rfl (toObject_c o o1 o2) (f1 (fa (l1 (fv rfl) (l1 (fr rfl rfl) (l1 (fv rfl) (l1 (fr rfl rfl) (l1 (fv rfl) (l1 (fv rfl) (l1 (fv rfl) (l1 (fv rfl) l0))))))))) f0) ?_
  (conv => whnf)
  refine vcallA_intro0 rfl (eqObject_c o o1 o2) (f1 (fa (l1 (fv rfl) (l1 (fh rfl rfl rfl) (l1 (fv rfl) (l1 (fh rfl rfl rfl) (l1 (fv rfl) (l1 (fv rfl) (l1 (fv rfl) (l1 (fv rfl) l0))))))))) (f1 (fa (l1 (fv rfl) (l1 (fh rfl rfl rfl) (l1 (fv rfl) (l1 (fh rfl rfl rfl) (l1 (fv rfl) (l1 (fv rfl) (l1 (fv rfl) (l1 (fv rfl) l0))))))))) f0)) ?_
  (conv => whnf)
  refine ⟨rfl, ?_⟩
  (conv => whnf)
  exact vfin_bool rfl
end Go.Proofs.YtfdmlccbfbiloaaGreatDoor
namespace Go.Proofs.YtfdmlccbfbiloaaGreatDoor
open Go Go.Proofs.YtfdmlccbfbiloaaGreatDoor.Vs
/-- what is known of two of the library's variables where a row's call begins -/
instance gl0 : Gl := ⟨[(5, fun l => l = Lib.pow10Tab.map fun z => Value.int .u64 z), (0, fun l => ∃ m : Int, l[0]? = some (.int .i64 m))]⟩
theorem pow_glob : Tryz.prog.globalNamed "internal/strconv.uint64pow10" = some 5 := by kernel_rfl
instance gld0 : GlD where
  pow := fun ow w h => by
    obtain ⟨_, arr, e, fr, h2, h3⟩ := h (5, fun l => l = Lib.pow10Tab.map fun z => Value.int .u64 z) (by simp [Gl.fact])
    have h2 : w.heap[5]? = some (.cells arr e fr) := h2
    have h3 : arr.toList = Lib.pow10Tab.map fun z => Value.int .u64 z := h3
    unfold Lib.TabIs World.var?
    rw [pow_glob]
    simp only [Option.bind_some, h2]
    rw [← h3]
  max := fun ow w h => by
    obtain ⟨_, arr, e, fr, h2, m, h3⟩ := h (0, fun l => ∃ m : Int, l[0]? = some (.int .i64 m)) (by simp [Gl.fact])
    refine ⟨m, ?_⟩
    have h2 : w.heap[0]? = some (.cells arr e fr) := h2
    simp only [World.cell?, h2]
    simpa using h3
/-- out of what a row lists, and the world's shape -/
theorem gok0 {W : World} (hT : Lib.TabIs Tryz.prog W "internal/strconv.uint64pow10" .u64 Lib.pow10Tab) (hm : ∃ m : Int, W.cell? ⟨0, 0, none⟩ = some (.int .i64 m)) : GOk (Go.Proofs.YtfdmlccbfbiloaaGreatDoor.Vs.gI).ow W := by
  intro p hp
  simp only [Gl.fact, List.mem_cons, List.not_mem_nil, or_false] at hp
  rcases hp with rfl | rfl
  · unfold Lib.TabIs World.var? at hT
    rw [pow_glob] at hT
    simp only [Option.bind_some] at hT
    split at hT
    · rename_i cs e fr hh
      exact ⟨rfl, cs, e, fr, hh, by rw [Option.some.inj hT]⟩
    · cases hT
  · obtain ⟨m, hm⟩ := hm
    unfold World.cell? at hm
    simp only at hm
    split at hm
    · rename_i cs e fr hh
      exact ⟨rfl, cs, e, fr, hh, m, by simpa using hm⟩
    · cases hm
theorem max_of {W : World} (h : W.ShapedOpen Tryz.prog) : ∃ m : Int, W.cell? ⟨0, 0, none⟩ = some (.int .i64 m) :=
  cell_of_shapedOpen_int (zero := #[.int .i64 0]) (t := 3) h (of_decide_eq_true (by kernel_rfl)) (by kernel_rfl) rfl (by kernel_rfl) (by kernel_rfl) Tryz.underlying3
theorem tab_of {W : World} {x y : String × DataW Unit} {r : List (String × DataW Unit)} (h : laidMet Tryz.prog (x :: y :: ("internal/strconv.uint64pow10", Lib.tabData .u64 Lib.pow10Tab) :: r) W) : Lib.TabIs Tryz.prog W "internal/strconv.uint64pow10" .u64 Lib.pow10Tab :=
  Lib.tabIs_of_head pow_glob (by kernel_rfl : (Tryz.prog.globals[5]?).map (·.type) = some 218) (by kernel_rfl : Tryz.prog.underlying 218 = some (.array 20 175)) (by kernel_rfl) (by kernel_rfl) (by kernel_rfl) h.tail.tail
end Go.Proofs.YtfdmlccbfbiloaaGreatDoor
