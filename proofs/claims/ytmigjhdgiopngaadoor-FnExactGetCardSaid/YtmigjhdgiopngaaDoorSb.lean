/- The law FnExactGet returns true for every list of fields and every name, and leaves its arguments as they were; the row lists two tables of unicode/utf8, tied to the text. -/
import Derived.Test.YtmigjhdgiopngaaDoorSa
import Derived.Shelf.Strings.SlTrimAscii
import Derived.Test.YtmigjhdgiopngaaDoorTie
import Derived.Test.YtmigjhdgiopngaaDoorCards
import Derived.ProofKit
import Derived.OpenShut
import Derived.LaidMore
import Derived.Lay
import Derived.SevenTiedAt
import Derived.Stop.Joined
namespace Go.Proofs.YtmigjhdgiopngaaDoor
open Go Go.Proofs.YtmigjhdgiopngaaDoor.Vs Go.Shelf

theorem trimR_cons (x : UInt8) (r : List UInt8) : trimR (x :: r) = if trimR r = [] then (if blankB x then [] else [x]) else x :: trimR r := by
  unfold trimR
  rw [List.reverse_cons, List.dropWhile_append]
  by_cases h : r.reverse.dropWhile blankB = []
  · rw [h]
    cases hb : blankB x <;> simp [List.dropWhile, hb]
  · have h1 : (r.reverse.dropWhile blankB).isEmpty = false := by simpa using h
    rw [h1]
    have h2 : ¬ (r.reverse.dropWhile blankB).reverse = [] := by simpa using h
    rw [if_neg h2]
    simp
theorem trim_swap : ∀ l : List UInt8, trimL (trimR l) = trimR (trimL l)
  | [] => rfl
  | x :: r => by
    have ih := trim_swap r
    rw [trimR_cons]
    cases hb : blankB x with
    | true =>
      have e : trimL (x :: r) = trimL r := by simp [trimL, hb]
      rw [e, ← ih]
      by_cases h : trimR r = []
      · rw [h]; simp [trimL]
      · rw [if_neg h]; simp [trimL, hb]
    | false =>
      have e : trimL (x :: r) = x :: r := by simp [trimL, hb]
      rw [e, trimR_cons, hb]
      by_cases h : trimR r = []
      · rw [h]; simp [trimL, hb]
      · rw [if_neg h]; simp [trimL, hb]
theorem trimS_eq (l : List UInt8) : Lib.trimS l [32, 9] = trimmed l := by
  have hf : (fun b : UInt8 => ([32, 9] : List UInt8).contains b) = blankB := by
    funext b
    rw [Bool.eq_iff_iff]
    simp [blankB, isBlank]
    constructor
    · rintro (h | h) <;> subst h <;> simp
    · rintro (h | h)
      · left; exact UInt8.toNat_inj.1 (by have h : (b.toNat : Int) = _ := h; simp; omega)
      · right; exact UInt8.toNat_inj.1 (by have h : (b.toNat : Int) = _ := h; simp; omega)
  unfold Lib.trimS Lib.trimLeftS Lib.trimRightS trimmed
  rw [← trim_swap, hf]
  rfl
theorem trim_c (s : ByteArray) (hs : (sb s).length ≤ 140737488355328) : VC Tryd.prog 41 [.val (.string s), .val (.string ⟨#[32, 9]⟩)] (.val (.string (bs (trimmed (sb s))))) := by
  refine VC.of_vals (xs := [.string s, .string ⟨#[32, 9]⟩]) Tryd.func41 rfl rfl rfl fun w => ?_
  rw [← trimS_eq]
  exact Any.strings_Trim_laid Tryd.lays160 (by kernel_rfl) s ⟨#[32, 9]⟩ w (by rw [size_sb]; omega) (by decide) (ascii_of_all (by decide))
theorem join_c (xs : List ByteArray) (sep : ByteArray) (hN : xs.length ≤ 140737488355328) (hlen : (Lib.join (xs.map sb) (sb sep)).length ≤ 140737488355328) : VC Tryd.prog 22 [.rd none (.sl true 1 (xs.map strC)), .val (.string sep)] (.val (.string (bs (Lib.join (xs.map sb) (sb sep))))) := by
  refine VC.of_strs Tryd.func22 rfl rfl rfl (fun h w a c => ?_) (fun w bk o c hc hb hl => ?_)
  · subst h
    exact (Tryd.strings_Join_none a c sep w).mono fun _ _ ⟨h1, h2⟩ => ⟨h1, h2 ▸ Go.RowKit.Below.refl _ _⟩
  · exact Tryd.strings_Join bk o c xs sep w hc hb hN hl hlen
end Go.Proofs.YtmigjhdgiopngaaDoor
namespace Go.Proofs.YtmigjhdgiopngaaDoor
open Go Go.Proofs.YtmigjhdgiopngaaDoor.Vs

theorem lowerI_c (s : ByteArray) (hs : (sb s).length ≤ 140737488355328) : VC Tryd.prog 21 [.val (.string s)] (.val (.string (bs (lower (sb s))))) := by
  refine VC.intro hΘ Tryd.func21 rfl rfl Tryd.ntmps21 rfl rfl rfl fun B hB => ?_
  (conv => whnf)
  refine vreq_intro hs ?_
  (conv => whnf)
  generalize hl : sb s = l at *
  refine vloop_intro hΘ hB (ι := Nat) (fun i => ⟨[(3, .own 1 (bytesC (lower (l.take i) ++ l.drop i))), (8, .hd (.sl 3 0 0)), (9, .val (.int .i64 (bytesC l).length)), (10, .val (.int .i64 i))], []⟩) (fun i => i ≤ l.length) (fun i => l.length - i) 0
    ⟨⟨.inr rfl, .inr rfl, .inr rfl, .inr rfl, trivial⟩, trivial⟩ (Nat.zero_le _) ?_
  rintro i k1
  have hlen : (bytesC (lower (l.take i) ++ l.drop i)).length = l.length := by rw [bytesC_len]; simp [lower]; omega
  (conv => whnf)
  refine brm_intro (fun h => ?_) (fun h => ?_) <;> (conv => whnf) <;> rw [bytesC_len] at h <;> simp only [decide_eq_true_eq, decide_eq_false_iff_not] at h
  · have hi : i < l.length := by omega
    have hg : l[i]? = some l[i] := List.getElem?_eq_getElem hi
    generalize l[i] = b at hg
    have hat := bytesC_at (lower_at hg)
    have hlt : i < (bytesC (lower (l.take i) ++ l.drop i)).length := by omega
    repeat' first
      | (refine vix_intro i rfl hlt ?_; (conv => whnf))
      | (refine vat_intro i _ rfl hat ?_; (conv => whnf))
      | (refine brm_intro (fun _ => ?_) (fun _ => ?_) <;> (conv => whnf))
    all_goals (simp only [decide_eq_true_eq, decide_eq_false_iff_not] at *)
    all_goals first
      | (have hb : lowerB b = b := lowerB_id (by omega)
         exact ⟨i + 1, ⟨⟨.inr (vown_eq (congrArg bytesC (lower_id hg hb))), .inr rfl, .inr rfl, .inr (vint_eq (by simp (disch := omega) only [wrap_i64]; rfl)), trivial⟩, trivial⟩, hi, by omega⟩)
      | (have hb := lowerB_up (b := b) (by omega) (by omega)
         refine ⟨i + 1, ⟨⟨.inr (vown_eq ?_), .inr rfl, .inr rfl, .inr (vint_eq (by simp (disch := omega) only [wrap_i64]; rfl)), trivial⟩, trivial⟩, hi, by omega⟩
         show (bytesC _).set i [C.v (.int .u8 (IntKind.u8.wrap (IntKind.u8.wrap ((b.toNat : Int) + 97) - 65)))] = _
         rw [wrap_u8 (x := (b.toNat : Int) + 97) (by omega) (by omega), wrap_u8 (by omega) (by omega), show (b.toNat : Int) + 97 - 65 = b.toNat + 32 by omega, ← hb, bytesC_set, lower_step hg])
  · refine vbytes_intro _ rfl ?_
    (conv => whnf)
    refine vfin_str (congrArg bs ?_)
    have : i = l.length := by omega
    subst this
    simp
theorem trimmedI_c (s : ByteArray) (hs : (sb s).length ≤ 140737488355328) : VC Tryd.prog 29 [.val (.string s)] (.val (.string (bs (trimmed (sb s))))) := by
  refine VC.intro hΘ Tryd.func29 rfl rfl Tryd.ntmps29 rfl rfl rfl fun B hB => ?_
  (conv => whnf)
  refine vcallS_intro0 rfl (trim_c s hs) (f1 (av rfl) (f1 (av rfl) f0)) ?_
  (conv => whnf)
  exact vfin_str rfl
theorem isField_c (p : Fd) (hp : szOk p) : VC Tryd.prog 20 [valF p] (.val (.bool (fieldOk p))) := by
  refine VC.intro hΘ Tryd.func20 rfl rfl Tryd.ntmps20 rfl rfl rfl fun B hB => ?_
  (conv => whnf)
  refine vdraw_intro hΘ hB mixed (by kernel_rfl) ?_
  (conv => whnf)
  refine vcallQ_intro0 rfl (tokenOkI_c p.1 hp.1) (f1 (av rfl) f0) rfl ?_
  (conv => whnf)
  refine brm_intro (fun h => ?_) (fun h => ?_) <;> (conv => whnf)
  · refine vcallQ_intro0 rfl (visibleOkI_c p.2 hp.2) (f1 (av rfl) f0) rfl ?_
    (conv => whnf)
    refine brm_intro (fun h' => ?_) (fun h' => ?_) <;> (conv => whnf)
    · refine vcallQ_intro0 rfl (trimmedI_c p.2 hp.2) (f1 (av rfl) f0) rfl ?_
      (conv => whnf)
      refine vfin_bool ?_
      rw [fieldOk, h, h']
      rfl
    · refine vfin_bool ?_
      rw [fieldOk, h, h']
      rfl
  · refine vfin_bool ?_
    rw [fieldOk, h]
    rfl
theorem fieldFn_c (p : Fd) (hp : szOk p) : VC Tryd.prog 19 [valF p] (.val (.bool (!fieldOk p))) := by
  refine VC.intro hΘ Tryd.func19 rfl rfl Tryd.ntmps19 rfl rfl rfl fun B hB => ?_
  (conv => whnf)
  refine vcallS_intro0 rfl (isField_c p hp) (f1 (fa (l1 (fv rfl) (l1 (fv rfl) l0))) f0) ?_
  (conv => whnf)
  exact vfin_bool rfl
theorem indexFnF_c (xs : List Fd) (hx : ∀ x ∈ xs, szOk x) (hl : xs.length ≤ 140737488355328) :
    VC Tryd.prog 26 [.rd none (.sl true 2 (xs.map encF)), .val (fnV 19)] (.val (.int .i64 (idxFn (fun p => !fieldOk p) xs 0))) := by
  refine VC.intro hΘ Tryd.func26 rfl rfl Tryd.ntmps26 rfl rfl rfl fun B hB => ?_
  (conv => whnf)
  refine vloop_intro hΘ hB (ι := Nat) (fun i => ⟨[(0, .rd none (.sl true 2 (xs.map encF))), (1, .val (fnV 19)), (7, .val (.int .i64 (xs.map encF).length)), (8, .val (.int .i64 i))], []⟩)
    (fun i => i ≤ xs.length ∧ idxFn (fun p => !fieldOk p) (xs.drop i) i = idxFn (fun p => !fieldOk p) xs 0) (fun i => xs.length - i) 0 ⟨⟨.inr rfl, .inr rfl, .inr rfl, .inr rfl, trivial⟩, trivial⟩ ⟨Nat.zero_le _, rfl⟩ ?_
  rintro i ⟨k1, k2⟩
  (conv => whnf)
  refine brm_intro (fun h => ?_) (fun h => ?_) <;> (conv => whnf) <;> rw [List.length_map] at h <;> simp only [decide_eq_true_eq, decide_eq_false_iff_not] at h
  · have hi : i < xs.length := by omega
    have hg : xs[i]? = some xs[i] := List.getElem?_eq_getElem hi
    have hm : xs[i] ∈ xs := List.getElem_mem hi
    rw [List.drop_eq_getElem_cons hi, idxFn] at k2
    generalize xs[i] = x at hg k2 hm
    refine vat_intro i (encF x) rfl (by rw [List.getElem?_map, hg]; rfl) ?_
    (conv => whnf)
    refine vcallS_intro0 rfl (fieldFn_c x (hx x hm)) (f1 (fa (l1 (fv rfl) (l1 (fv rfl) l0))) f0) ?_
    (conv => whnf)
    refine brm_intro (fun h2 => ?_) (fun h2 => ?_) <;> (conv => whnf)
    · refine vfin_int ?_
      rw [h2, if_pos rfl] at k2
      exact k2
    · rw [h2] at k2
      simp only [Bool.false_eq_true, if_false] at k2
      exact ⟨i + 1, ⟨⟨.inr rfl, .inr rfl, .inr rfl, .inr (vint_eq (by simp (disch := omega) only [wrap_i64]; rfl)), trivial⟩, trivial⟩, ⟨hi, k2⟩, by omega⟩
  · refine vfin_int ?_
    have : xs.drop i = [] := List.drop_eq_nil_of_le (by omega)
    rw [this] at k2
    exact k2
theorem containsFnF_c (xs : List Fd) (hx : ∀ x ∈ xs, szOk x) (hl : xs.length ≤ 140737488355328) :
    VC Tryd.prog 18 [.rd none (.sl true 2 (xs.map encF)), .val (fnV 19)] (.val (.bool (xs.any fun p => !fieldOk p))) := by
  refine VC.intro hΘ Tryd.func18 rfl rfl Tryd.ntmps18 rfl rfl rfl fun B hB => ?_
  (conv => whnf)
  refine vcallS_intro0 rfl (indexFnF_c xs hx hl) (f1 (ar rfl rfl) (f1 (av rfl) f0)) ?_
  (conv => whnf)
  exact vfin_bool (idxFn_nonneg _ xs 0)
theorem fieldsOkI_c (xs : List Fd) (hx : ∀ x ∈ xs, szOk x) (hl : xs.length ≤ 140737488355328) : VC Tryd.prog 13 [.rd none (.sl true 2 (xs.map encF))] (.val (.bool (fieldsOk xs))) := by
  refine VC.intro hΘ Tryd.func13 rfl rfl Tryd.ntmps13 rfl rfl rfl fun B hB => ?_
  (conv => whnf)
  refine brm_intro (fun h => ?_) (fun h => ?_) <;> (conv => whnf) <;> rw [List.length_map] at h <;> simp only [decide_eq_true_eq, decide_eq_false_iff_not] at h
  · refine vcallS_intro0 rfl (containsFnF_c xs hx hl) (f1 (ar rfl rfl) (f1 (av rfl) f0)) ?_
    (conv => whnf)
    refine vfin_bool ?_
    have h2 : xs.length ≤ 30 := by omega
    rw [← List.not_all_eq_any_not, Bool.not_not]
    simp [fieldsOk, h2]
  · refine vfin_bool ?_
    have h2 : ¬ xs.length ≤ 30 := by omega
    simp [fieldsOk, h2]
end Go.Proofs.YtmigjhdgiopngaaDoor
namespace Go.Proofs.YtmigjhdgiopngaaDoor
open Go Go.Proofs.YtmigjhdgiopngaaDoor.Vs

def hitsB (n : ByteArray) (xs : List Fd) : List ByteArray := (xs.filter fun p => lower (sb p.1) == lower (sb n)).map (·.2)
theorem hitsB_of (n : ByteArray) (xs : List Fd) : (hitsB n xs).map sb = hitsOf n xs := by
  simp [hitsB, hitsOf]
theorem hitsB_cons {n : ByteArray} {p : Fd} {xs : List Fd} : hitsB n (p :: xs) = (if lower (sb p.1) = lower (sb n) then [p.2] else []) ++ hitsB n xs := by
  unfold hitsB
  rw [List.filter_cons]
  by_cases h : lower (sb p.1) = lower (sb n) <;> simp [h]
theorem hitsB_len (n : ByteArray) (xs : List Fd) : (hitsB n xs).length ≤ xs.length := by
  unfold hitsB; rw [List.length_map]; exact List.length_filter_le _ _
theorem hits_short {n : ByteArray} {xs : List Fd} (h : fieldsOk xs = true) : ∀ x ∈ hitsOf n xs, x.length ≤ 400 := by
  intro x hx
  obtain ⟨p, hp, rfl⟩ := List.mem_map.1 hx
  have hp := (List.mem_filter.1 hp).1
  simp only [fieldsOk, Bool.and_eq_true, List.all_eq_true] at h
  have := h.2 p hp
  simp only [fieldOk, visibleOk, Bool.and_eq_true, decide_eq_true_eq] at this
  exact this.1.2.1

theorem getI_c (xs : List Fd) (n : ByteArray) (hx : ∀ x ∈ xs, szOk x) (hn : (sb n).length ≤ 140737488355328) (hok : fieldsOk xs = true) : VC Tryd.prog 14 [.rd none (.sl true 2 (xs.map encF)), .val (.string n)] (getV xs n) := by
  have h30 : xs.length ≤ 30 := by
    simp only [fieldsOk, Bool.and_eq_true, decide_eq_true_eq] at hok
    exact hok.1
  refine VC.intro hΘ Tryd.func14 rfl rfl Tryd.ntmps14 rfl rfl rfl fun B hB => ?_
  (conv => whnf)
  refine vloop_intro hΘ hB (ι := Nat × List ByteArray) (fun i => ⟨[(1, .val (.string n)), (6, .own 1 (i.2.map strC)), (10, .rd none (.sl true 2 (xs.map encF))), (11, .val (.int .i64 (xs.map encF).length)), (12, .val (.int .i64 i.1))], []⟩)
    (fun i => i.1 ≤ xs.length ∧ i.2 ++ hitsB n (xs.drop i.1) = hitsB n xs ∧ i.2.length ≤ i.1) (fun i => xs.length - i.1) (0, [])
    ⟨⟨.inr rfl, .inr rfl, .inr rfl, .inr rfl, .inr rfl, trivial⟩, trivial⟩ ⟨by simp, rfl, by simp⟩ ?_
  rintro ⟨i, hs⟩ ⟨k1, k2, k3⟩
  simp only at k1 k2 k3
  (conv => whnf)
  refine brm_intro (fun h => ?_) (fun h => ?_) <;> (conv => whnf) <;> rw [List.length_map] at h <;> simp only [decide_eq_true_eq, decide_eq_false_iff_not] at h
  · have hi : i < xs.length := by omega
    rw [List.drop_eq_getElem_cons hi, hitsB_cons] at k2
    have hm : xs[i] ∈ xs := List.getElem_mem hi
    have hg : xs[i]? = some xs[i] := List.getElem?_eq_getElem hi
    generalize xs[i] = x at k2 hm hg
    have hat : (xs.map encF)[i]? = some (encF x) := by rw [List.getElem?_map, hg]; rfl
    refine vat_intro i (encF x) rfl hat ?_
    (conv => whnf)
    refine vcallS_intro0 rfl (lowerI_c x.1 (hx x hm).1) (f1 (av rfl) f0) ?_
    (conv => whnf)
    refine vcallS_intro0 rfl (lowerI_c n hn) (f1 (av rfl) f0) ?_
    (conv => whnf)
    have hstep : IntKind.i64.wrap ((i : Int) + 1) = ((i + 1 : Nat) : Int) := by rw [wrap_i64 (by omega) (by omega)]; rfl
    refine brm_intro (fun h2 => ?_) (fun h2 => ?_) <;> (conv => whnf) <;> simp only [sb_bs] at h2
    · have : lower (sb x.1) = lower (sb n) := by simpa using h2
      rw [if_pos this, ← List.append_assoc] at k2
      refine vreq_intro (by rw [List.length_map]; show (hs.length + 1) * 17 ≤ _; omega) ?_
      (conv => whnf)
      refine ⟨(i + 1, hs ++ [x.2]), ⟨⟨.inr rfl, .inr (vown_eq ?_), .inr rfl, .inr rfl, .inr (vint_eq hstep), trivial⟩, trivial⟩, ⟨hi, k2, by simp; omega⟩, by simp; omega⟩
      rw [List.map_append]; rfl
    · have : ¬ lower (sb x.1) = lower (sb n) := by simpa using h2
      rw [if_neg this] at k2
      exact ⟨(i + 1, hs), ⟨⟨.inr rfl, .inr rfl, .inr rfl, .inr rfl, .inr (vint_eq hstep), trivial⟩, trivial⟩, ⟨hi, k2, by simp; omega⟩, by simp; omega⟩
  · have : xs.drop i = [] := List.drop_eq_nil_of_le (by omega)
    rw [this] at k2
    have : hs = hitsB n xs := by simpa [hitsB] using k2
    subst this
    have hlen := hitsB_len n xs
    refine vcallS_intro0 rfl (join_c (hitsB n xs) ⟨#[44, 32]⟩ (by omega) ?_) (f1 (ah rfl rfl rfl) (f1 (av rfl) f0)) ?_
    · rw [hitsB_of]
      refine Nat.le_trans (join_len (hits_short hok)) ?_
      rw [← hitsB_of, List.length_map]; omega
    (conv => whnf)
    refine vfin_tup2 ?_ (vbool_eq ?_)
    · rw [hitsB_of]; rfl
    · rw [Bool.eq_iff_iff, ← hitsB_of]
      simp
      rw [List.length_pos_iff]
theorem getIm_c (xs : List Fd) (n : ByteArray) (hx : ∀ x ∈ xs, szOk x) (hn : (sb n).length ≤ 140737488355328) (hl : xs.length ≤ 140737488355328) : VC Tryd.prog 7 [.rd none (.sl true 2 (xs.map encF)), .val (.string n)] (getAll xs n) := by
  refine VC.intro hΘ Tryd.func7 rfl rfl Tryd.ntmps7 rfl rfl (by unfold getAll; split <;> rfl) fun B hB => ?_
  (conv => whnf)
  refine vcallS_intro0 rfl (fieldsOkI_c xs hx hl) (f1 (ar rfl rfl) f0) ?_
  (conv => whnf)
  refine brm_intro (fun h => ?_) (fun h => ?_) <;> (conv => whnf) <;> simp only [Bool.not_eq_true', Bool.not_eq_false'] at h
  · have : getAll xs n = .tup [.val (.string (bs [])), .val (.bool false)] := by unfold getAll; rw [h]; rfl
    rw [this]
    exact vfin_tup2 rfl rfl
  · have : getAll xs n = getV xs n := by unfold getAll; rw [h]; rfl
    rw [this]
    refine vcallS_intro0 rfl (getI_c xs n hx hn h) (f1 (ar rfl rfl) (f1 (av rfl) f0)) ?_
    (conv => whnf)
    exact vfin_tup2 rfl rfl
end Go.Proofs.YtmigjhdgiopngaaDoor
namespace Go.Proofs.YtmigjhdgiopngaaDoor
open Go Go.Proofs.YtmigjhdgiopngaaDoor.Vs

def szF (l : Int) (a b : ByteArray) : Int := if l - (sb a).length < 0 then -1 else if l - (sb a).length - (sb b).length < 0 then -1 else l - (sb a).length - (sb b).length

theorem szField_c (a b : ByteArray) (l : Int) (h1 : 0 ≤ l) (h2 : l ≤ 1048576) (ha : (sb a).length ≤ 140737488355328) (hb : (sb b).length ≤ 140737488355328) : VC Tryd.prog 9 [.agg [.val (.string a), .val (.string b)], .val (.int .i64 l)] (.val (.int .i64 (szF l a b))) := by
  refine VC.intro hΘ Tryd.func9 rfl rfl Tryd.ntmps9 rfl rfl rfl fun B hB => ?_
  (conv => whnf)
  refine brm_intro (fun h => ?_) (fun h => ?_) <;> simp (disch := omega) only [wrap_i64, decide_eq_true_eq, decide_eq_false_iff_not] at h
  · (conv => whnf)
    refine vfin_int ?_
    simp [szF, h]
  · (conv => whnf)
    refine brm_intro (fun h' => ?_) (fun h' => ?_) <;> simp (disch := omega) only [wrap_i64, decide_eq_true_eq, decide_eq_false_iff_not] at h' <;> (conv => whnf) <;> refine vfin_int ?_ <;> simp (disch := omega) only [wrap_i64, szF, h, h', if_true, if_false]
def szFS (l : Int) : List Fd → Int
  | [] => l
  | x :: xs => if szF l x.1 x.2 < 0 then -1 else szFS (szF l x.1 x.2) xs
theorem szF_le {l : Int} {a b : ByteArray} (h : 0 ≤ l) : szF l a b ≤ l := by
  unfold szF; split <;> (try split) <;> omega
theorem szFieldS_c (xs : List Fd) (l : Int) (h1 : 0 ≤ l) (h2 : l ≤ 1048576) (hl : xs.length ≤ 140737488355328) (hx : ∀ x ∈ xs, (sb x.1).length ≤ 140737488355328 ∧ (sb x.2).length ≤ 140737488355328) :
    VC Tryd.prog 4 [.rd none (.sl true 2 (xs.map encF)), .val (.int .i64 l)] (.val (.int .i64 (if l - xs.length < 0 then -1 else szFS (l - xs.length) xs))) := by
  refine VC.intro hΘ Tryd.func4 rfl rfl Tryd.ntmps4 rfl rfl rfl fun B hB => ?_
  (conv => whnf)
  refine brm_intro (fun h => ?_) (fun h => ?_) <;> simp only [List.length_map] at h <;> simp (disch := omega) only [wrap_i64, decide_eq_true_eq, decide_eq_false_iff_not] at h
  · (conv => whnf)
    refine vfin_int ?_
    simp [h]
  rw [if_neg h]
  (conv => whnf)
  refine vloop_intro hΘ hB (ι := Nat × Int) (fun x => ⟨[(0, .rd none (.sl true 2 (xs.map encF))), (1, .val (.int .i64 x.2)), (5, .val (.int .i64 x.1))], []⟩)
    (fun x => x.1 ≤ xs.length ∧ 0 ≤ x.2 ∧ x.2 ≤ 1048576 ∧ szFS x.2 (xs.drop x.1) = szFS (l - xs.length) xs) (fun x => xs.length - x.1) (0, l - xs.length)
    ⟨⟨.inr rfl, .inr (vint_eq (by simp only [List.length_map]; simp (disch := omega) only [wrap_i64])), .inr rfl, trivial⟩, trivial⟩ ⟨by simp, by simp; omega, by simp; omega, rfl⟩ ?_
  rintro ⟨i, v⟩ ⟨k1, k2, k3, k4⟩
  simp only at k1 k2 k3 k4
  (conv => whnf)
  refine brm_intro (fun h => ?_) (fun h => ?_) <;> simp only [List.length_map, decide_eq_true_eq, decide_eq_false_iff_not, Int.ofNat_lt] at h
  · have hi : xs[i]? = some xs[i] := List.getElem?_eq_getElem h
    have hm : xs[i] ∈ xs := List.getElem_mem h
    rw [List.drop_eq_getElem_cons h] at k4
    generalize xs[i] = x at hi hm k4
    (conv => whnf)
    refine vat_intro i (encF x) rfl (by rw [List.getElem?_map, hi]; rfl) ?_
    (conv => whnf)
    refine vcallS_intro0 rfl (szField_c x.1 x.2 v k2 k3 (hx x hm).1 (hx x hm).2) (f1 (fa (l1 (fv rfl) (l1 (fv rfl) l0))) (f1 (av rfl) f0)) ?_
    (conv => whnf)
    refine brm_intro (fun h' => ?_) (fun h' => ?_) <;> simp only [decide_eq_true_eq, decide_eq_false_iff_not] at h' 
    · (conv => whnf)
      refine vfin_int ?_
      simp [szFS, h'] at k4
      exact k4
    · have := szF_le (a := x.1) (b := x.2) k2
      simp only [szFS, if_neg h'] at k4
      exact ⟨(i + 1, szF v x.1 x.2), ⟨⟨.inr rfl, .inr rfl, .inr (vint_eq (by simp (disch := omega) only [wrap_i64]; rfl)), trivial⟩, trivial⟩, ⟨h, by simp; omega, by simp; omega, k4⟩, by simp; omega⟩
  · (conv => whnf)
    refine vfin_int ?_
    have : xs.drop i = [] := List.drop_eq_nil_of_le (by omega)
    rw [this] at k4
    exact k4


theorem szFS_neg : ∀ {xs : List Fd} {l : Int}, 0 ≤ szFS l xs → 0 ≤ l ∨ xs = []
  | [], l, _ => .inr rfl
  | x :: r, l, h => by
    rw [szFS] at h
    split at h
    · omega
    · rename_i h1
      left
      unfold szF at h1
      split at h1
      · omega
      · omega
theorem law_c (xs : List Fd) (n : ByteArray) (hx : ∀ x ∈ xs, szOk x) (hn : (sb n).length ≤ 140737488355328) (hl : xs.length ≤ 140737488355328) : VC Tryd.prog 3 [.rd none (.sl true 2 (xs.map encF)), .val (.string n)] (.val (.bool true)) := by
  refine VC.intro hΘ Tryd.func3 rfl rfl Tryd.ntmps3 rfl rfl rfl fun B hB => ?_
  (conv => whnf)
  refine brm_intro (fun h => ?_) (fun h => ?_) <;> (conv => whnf)
  · exact vfin_bool rfl
  refine vcallS_intro0 rfl (szFieldS_c xs 1048576 (by decide) (by decide) hl hx) (f1 (ar rfl rfl) (f1 (av rfl) f0)) ?_
  (conv => whnf)
  refine brm_intro (fun h => ?_) (fun h => ?_) <;> (conv => whnf)
  · exact vfin_bool rfl
  simp only [decide_eq_false_iff_not] at h
  have hl2 : xs.length ≤ 1048576 := by
    split at h
    · omega
    · omega
  refine vcallS_intro0 rfl (toFieldS_c xs (by omega)) (f1 (ar rfl rfl) f0) ?_
  (conv => whnf)
  obtain ⟨s0, b0, hg⟩ : ∃ s b, getAll xs n = .tup [.val (.string s), .val (.bool b)] := by
    unfold getAll getV; split <;> exact ⟨_, _, rfl⟩
  have c1 := getS_c xs n hx hn hl
  have c2 := getIm_c xs n hx hn hl
  rw [hg] at c1 c2
  refine vcallS_intro0 rfl c1 (f1 (ah rfl rfl rfl) (f1 (av rfl) f0)) ?_
  (conv => whnf)
  refine vcallS_intro0 rfl (toFieldS_c xs (by omega)) (f1 (ar rfl rfl) f0) ?_
  (conv => whnf)
  refine vcallS_intro0 rfl c2 (f1 (ah rfl rfl rfl) (f1 (av rfl) f0)) ?_
  (conv => whnf)
  refine brm_intro (fun h => ?_) (fun h => ?_) <;> (conv => whnf)
  · exact absurd h (by simp)
  refine brm_intro (fun h => ?_) (fun h => ?_) <;> (conv => whnf)
  · exact absurd h (by simp)
  refine vcallS_intro0 rfl (toFieldS_c xs (by omega)) (f1 (ar rfl rfl) f0) ?_
  (conv => whnf)
  refine vcallS_intro0 rfl (eqFieldS_c xs (by omega)) (f1 (ah rfl rfl rfl) (f1 (ah rfl rfl rfl) f0)) ?_
  (conv => whnf)
  exact vfin_bool rfl
end Go.Proofs.YtmigjhdgiopngaaDoor
namespace Go.Proofs.YtmigjhdgiopngaaDoor
open Go Go.Proofs.YtmigjhdgiopngaaDoor.Vs Go.ChangeShapes Go.WideShapes Go.ChangeAt Go.RowKit

theorem fd_of {n : Nat} {xs : List (List C)} (h : ∀ x ∈ xs, Ty Θ (n + 2) 32 x) : ∃ l : List Fd, xs = l.map encF ∧ ∀ p ∈ l, szOk p := by
  induction xs with
  | nil => exact ⟨[], rfl, by simp⟩
  | cons x r ih =>
    obtain ⟨l, rfl, hl⟩ := ih (fun y hy => h y (by simp [hy]))
    obtain ⟨c1, c2, rfl, ⟨s1, rfl, h1⟩, c3, c4, rfl, ⟨s2, rfl, h2⟩, rfl⟩ := (h x (by simp) : TyF (Ty Θ (n + 1)) [(0, 9), (1, 9)] x)
    refine ⟨(s1, s2) :: l, rfl, fun p hp => ?_⟩
    rcases List.mem_cons.1 hp with rfl | hp
    · exact ⟨Nat.le_trans h1 (by decide), Nat.le_trans h2 (by decide)⟩
    · exact hl p hp
theorem own : ownKnob Tryd.prog.godebug = none := by kernel_rfl
theorem laidOut : laidOutB Tryd.prog = true := by kernel_rfl
set_option maxRecDepth 100000 in
theorem lifted (os : Os) (started : os.Started) (H : Type) (enc : TypeId × Value → H) :
    ReturnsInHanded {} Tryd.checked os 3 .any (fun w args => (Rows.fnExactGetSpec.pre enc Tryd.prog Tryd.f3 Rows.fnExactGetRow.domain false w args ∧ laidMetH Tryd.prog Rows.fnExactGetRow.laid w) ∧ sizedMet enc Tryd.prog Tryd.f3 (OpenSpec.ofChange Rows.fnExactGetSpec) false w args)
      (Rows.fnExactGetSpec.post enc Tryd.prog Tryd.f3 false true false false) := by
  refine returnsInHanded_of_change_and (C := Tryd.checked) (X := fun w _ => laidMetH Tryd.prog Rows.fnExactGetRow.laid w) (fun _ _ _ hh h => h.of_heap hh) own started (by kernel_rfl) Tryd.func3
    (ChangeSpec.witness_shaped (enc := enc) (C := Tryd.checked) (os := os) (X := fun w _ => laidMetH Tryd.prog Rows.fnExactGetRow.laid w) false (World.laidAll Tryd.prog os Rows.fnExactGetRow.laid) #[.slice none 0 0, .string ⟨#[]⟩] 8 (World.laidAll_os _ _ _)
      (World.shaped_of_ZipB (by kernel_rfl) (by kernel_rfl)) (by kernel_rfl) (by kernel_rfl) (by kernel_rfl)
      (by rw [MakeChecks.laidMetH_plain _ _ _ (by kernel_rfl)]; exact laidMet_laidAll _ (by kernel_rfl) (by kernel_rfl))) ?_
  intro W base args ds gs before hval0 hW _ hwt _ _
  have hval : ∀ (j : Nat) t v, Tryd.f3.params[j]? = some t → args[j]? = some v → Value.okWide Tryd.prog W .any base t v := hval0
  have hW' := hW
  obtain ⟨p, q, hA0, hV, rfl, _, _⟩ := hW
  have hA : DataW.TrodAll enc Tryd.prog W 0 (fun _ => true) true Tryd.f3.params.toList args.toList ds p := hA0
  rw [Tryd.params3] at hA hval
  obtain ⟨v0, v1, d0, d1, p0, p1, rfl, rfl, rfl, h0, h1⟩ := trodAll_two hA
  obtain ⟨rfl, rfl⟩ := trodVars_none hV
  obtain ⟨c0, t0, r0⟩ := arg_open hΘ 4 (by decide) (hval 0 _ v0 rfl rfl) h0 (weights_arg (ts := Tryd.f3.params.toList) hwt (j := 0) rfl rfl)
  obtain ⟨c1, t1, r1⟩ := arg_open hΘ 4 (by decide) (hval 1 _ v1 rfl rfl) h1 (weights_arg (ts := Tryd.f3.params.toList) hwt (j := 1) rfl rfl)
  obtain ⟨xs, rfl, hl, hx⟩ := t0
  obtain ⟨l, rfl, hsz⟩ := fd_of hx
  obtain ⟨n, rfl, hn⟩ := t1
  refine (VC.law (law_c l n hsz (Nat.le_trans hn (by decide)) (by have : byO Θ 32 = 32 := rfl; rw [this, List.length_map] at hl; simp only [reachBytes] at hl; omega)) (args := [v0, v1]) rfl (fun i v u hv hu => ?_)).mono ?_
  · match i with
    | 0 => simp at hv hu; subst hv; subst hu; exact r0 0
    | 1 => simp at hv hu; subst hv; subst hu; exact r1 1
    | i + 2 => simp at hv
  · rintro e W' ⟨rfl, hB⟩
    exact ⟨_, rfl, law_post rfl hW' rfl rfl Tryd.underlying4 laidOut (by
      have hall : (Tryd.f3.params.toList.all fun t => Tryd.prog.readableRec t && decide (t < Tryd.prog.types.size)) = true := by kernel_rfl
      intro t ht
      have := List.all_eq_true.1 hall t ht
      simp only [Bool.and_eq_true, decide_eq_true_eq] at this
      exact this) hB⟩

theorem holds : Rows.FnExactGetSaid :=
  OpenClaim.holds_of_wide 3 Tryd.f3 rfl rfl rfl rfl rfl rfl rfl ⟨rfl, rfl, rfl, rfl, rfl⟩ rfl rfl rfl rfl rfl (by kernel_rfl) Tryd.func3 (by kernel_rfl)
    (of_decide_eq_true (by kernel_rfl)) (by unfold Func.isWrapper; first | (rw [if_pos (by decide +kernel)]; kernel_rfl) | (rw [if_neg (by decide +kernel)]; exact ⟨rfl, rfl⟩))
    (fun os started H enc _ => lifted os started H enc)
theorem card_holds : Rows.FnExactGetCardSaid :=
  Claim7.holds_tied_plain_at .later [] [.data, .pinned] true (true, "82eb1a3967f7b52205f26bcecd2597c3413bcd71ecf24786568db72eb3032a93") false holds (fun _ h => by cases h) (by kernel_rfl) (fun _ h => by cases h) fnExactGet_row_tie rfl ⟨rfl, rfl⟩ (by kernel_rfl) rfl
    (fun f fn hf hfn => by
      obtain rfl : f = 3 := Option.some.inj ((show Tryd.prog.funcNamed "loop.example/g00207/laws.FnExactGet" = some 3 by kernel_rfl).symm.trans hf) |>.symm
      obtain rfl : fn = Tryd.f3 := (Option.some.inj (Tryd.func3.symm.trans hfn)).symm
      exact ⟨by kernel_rfl, fun j t ht => by
        have hm : t ∈ Tryd.f3.params.toList := by
          have := Array.mem_of_getElem? ht
          simpa using this
        have hall : (Tryd.f3.params.toList.all fun u => !Tryd.prog.wantsStandIn u) = true := by kernel_rfl
        exact (show Tryd.prog.wantsStandIn t = false by simpa using List.all_eq_true.1 hall t hm)⟩)
    (by kernel_rfl)
#print axioms card_holds
end Go.Proofs.YtmigjhdgiopngaaDoor
