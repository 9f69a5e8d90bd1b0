import Derived.Calls
import Derived.Below
import Derived.Deep.Quiet
import Derived.KernelRfl
import Derived.Laws.StructEq
import Derived.Laws.Strings
import Derived.Laws.Cells
import Derived.Laws.Slices
import Derived.Laws.BytesString
import Derived.Lib.ConvBytes
import Derived.Laws.BytesArg
import Derived.Laws.IdiomCopy
/- A calculus of plain values over the model: trees of values, what it is to read as one, to own one. No program in it. -/
namespace Go.Proofs.YtfdmlccbfbiloaaGreatDoor.Vs
open Go

/-- a cell's content: a plain value, or a slice: k: is its memory one's own; s: cells an element; the elements -/
inductive C where
  | v (x : Value)
  | sl (k : Bool) (s : Nat) (xs : List (List C))
  deriving Inhabited

def cap63 : Nat := 9223372036854775807

mutual
/-- u reads as c in w; S: which blocks may be read, by the slice's own mark -/
def Rd (S : Bool → Nat → Prop) (w : World) : C → Value → Prop
  | .v x, u => u = x ∧ x.oneCell' = true
  | .sl k s xs, u => ∃ A cap, u = .slice A xs.length cap ∧ xs.length ≤ cap ∧ cap ≤ cap63 ∧
      (xs.length = 0 ∨ ∃ ad arr e fr, A = some ad ∧ ad.spot = none ∧ S k ad.block ∧ w.heap[ad.block]? = some (.cells arr e fr) ∧ RdE S w s xs (arr.toList.drop ad.off))
def RdE (S : Bool → Nat → Prop) (w : World) (s : Nat) : List (List C) → List Value → Prop
  | [], _ => True
  | c :: r, us => c.length = s ∧ RdL S w c us ∧ RdE S w s r (us.drop s)
def RdL (S : Bool → Nat → Prop) (w : World) : List C → List Value → Prop
  | [], _ => True
  | c :: r, us => ∃ u us', us = u :: us' ∧ Rd S w c u ∧ RdL S w r us'
end

mutual
/-- u is c, and the memory of its own slices are just the blocks fp; I: the blocks that nobody turns -/
def Ow (I : Nat → Prop) (w : World) : C → Value → List Nat → Prop
  | .v x, u, fp => (u = x ∧ x.oneCell' = true) ∧ fp = []
  | .sl false s xs, u, fp => fp = [] ∧ Rd (fun k b => k = false ∧ I b) w (.sl false s xs) u
  | .sl true s xs, u, fp => (xs = [] ∧ u = .slice none 0 0 ∧ fp = []) ∨
      ∃ b arr e cap f fr, u = .slice (some ⟨b, 0, none⟩) xs.length cap ∧ xs.length ≤ cap ∧ cap ≤ cap63 ∧ w.heap[b]? = some (.cells arr e fr) ∧ (fr.1 = fr.2 ∨ arr.size ≤ fr.1) ∧ arr.size = cap * s ∧
        OwE I w s xs arr.toList f ∧ fp = b :: f
def OwE (I : Nat → Prop) (w : World) (s : Nat) : List (List C) → List Value → List Nat → Prop
  | [], _, fp => fp = []
  | c :: r, us, fp => c.length = s ∧ ∃ f1 f2, fp = f1 ++ f2 ∧ OwL I w c us f1 ∧ OwE I w s r (us.drop s) f2
def OwL (I : Nat → Prop) (w : World) : List C → List Value → List Nat → Prop
  | [], _, fp => fp = []
  | c :: r, us, fp => ∃ u us' f1 f2, us = u :: us' ∧ fp = f1 ++ f2 ∧ Ow I w c u f1 ∧ OwL I w r us' f2
end

mutual
theorem Rd.mono {S S' : Bool → Nat → Prop} {w w' : World} (h : ∀ k b, S k b → (w.heap[b]?).isSome = true → S' k b ∧ w'.heap[b]? = w.heap[b]?) : ∀ (c : C) (u : Value), Rd S w c u → Rd S' w' c u
  | .v x, u, r => by simpa [Rd] using r
  | .sl k s xs, u, r => by
    simp only [Rd] at r ⊢
    obtain ⟨A, cap, rfl, h1, h2, h3⟩ := r
    refine ⟨A, cap, rfl, h1, h2, h3.imp id ?_⟩
    rintro ⟨ad, arr, e, fr, rfl, hs, hk, hb, hE⟩
    have hh := h k _ hk (by rw [hb]; rfl)
    exact ⟨ad, arr, e, fr, rfl, hs, hh.1, hh.2.trans hb, RdE.mono h s xs _ hE⟩
theorem RdE.mono {S S' : Bool → Nat → Prop} {w w' : World} (h : ∀ k b, S k b → (w.heap[b]?).isSome = true → S' k b ∧ w'.heap[b]? = w.heap[b]?) (s : Nat) : ∀ (xs : List (List C)) (us : List Value), RdE S w s xs us → RdE S' w' s xs us
  | [], us, r => by simp [RdE]
  | c :: xs, us, r => by
    simp only [RdE] at r ⊢
    exact ⟨r.1, RdL.mono h c us r.2.1, RdE.mono h s xs _ r.2.2⟩
theorem RdL.mono {S S' : Bool → Nat → Prop} {w w' : World} (h : ∀ k b, S k b → (w.heap[b]?).isSome = true → S' k b ∧ w'.heap[b]? = w.heap[b]?) : ∀ (cs : List C) (us : List Value), RdL S w cs us → RdL S' w' cs us
  | [], us, r => by simp [RdL]
  | c :: cs, us, r => by
    simp only [RdL] at r ⊢
    obtain ⟨u, us', rfl, h1, h2⟩ := r
    exact ⟨u, us', rfl, Rd.mono h c u h1, RdL.mono h cs us' h2⟩
end

mutual
theorem Ow.mono {I I' : Nat → Prop} {w w' : World} (hI : ∀ b, I b → (w.heap[b]?).isSome = true → I' b ∧ w'.heap[b]? = w.heap[b]?) : ∀ (c : C) (u : Value) (fp : List Nat), (∀ b ∈ fp, w'.heap[b]? = w.heap[b]?) → Ow I w c u fp → Ow I' w' c u fp
  | .v x, u, fp, _, r => by simpa [Ow] using r
  | .sl false s xs, u, fp, _, r => by
    simp only [Ow] at r ⊢
    exact ⟨r.1, Rd.mono (fun _ b hb hx => ⟨⟨hb.1, (hI b hb.2 hx).1⟩, (hI b hb.2 hx).2⟩) _ _ r.2⟩
  | .sl true s xs, u, fp, hf, r => by
    simp only [Ow] at r ⊢
    rcases r with r | ⟨b, arr, e, cap, f, fr, rfl, h1, h2, h3, h3', h4, h5, rfl⟩
    · exact .inl r
    · exact .inr ⟨b, arr, e, cap, f, fr, rfl, h1, h2, (hf b (by simp)).trans h3, h3', h4, OwE.mono hI s xs _ f (fun b' hb' => hf b' (by simp [hb'])) h5, rfl⟩
theorem OwE.mono {I I' : Nat → Prop} {w w' : World} (hI : ∀ b, I b → (w.heap[b]?).isSome = true → I' b ∧ w'.heap[b]? = w.heap[b]?) (s : Nat) : ∀ (xs : List (List C)) (us : List Value) (fp : List Nat), (∀ b ∈ fp, w'.heap[b]? = w.heap[b]?) → OwE I w s xs us fp → OwE I' w' s xs us fp
  | [], us, fp, _, r => by simpa [OwE] using r
  | c :: xs, us, fp, hf, r => by
    simp only [OwE] at r ⊢
    obtain ⟨h1, f1, f2, rfl, h2, h3⟩ := r
    exact ⟨h1, f1, f2, rfl, OwL.mono hI c us f1 (fun b hb => hf b (by simp [hb])) h2, OwE.mono hI s xs _ f2 (fun b hb => hf b (by simp [hb])) h3⟩
theorem OwL.mono {I I' : Nat → Prop} {w w' : World} (hI : ∀ b, I b → (w.heap[b]?).isSome = true → I' b ∧ w'.heap[b]? = w.heap[b]?) : ∀ (cs : List C) (us : List Value) (fp : List Nat), (∀ b ∈ fp, w'.heap[b]? = w.heap[b]?) → OwL I w cs us fp → OwL I' w' cs us fp
  | [], us, fp, _, r => by simpa [OwL] using r
  | c :: cs, us, fp, hf, r => by
    simp only [OwL] at r ⊢
    obtain ⟨u, us', f1, f2, rfl, rfl, h1, h2⟩ := r
    exact ⟨u, us', f1, f2, rfl, rfl, Ow.mono hI c u f1 (fun b hb => hf b (by simp [hb])) h1, OwL.mono hI cs us' f2 (fun b hb => hf b (by simp [hb])) h2⟩
end

mutual
/-- what one owns one can read -/
theorem Ow.rd {I : Nat → Prop} {S : Bool → Nat → Prop} {w : World} (hI : ∀ b, I b → S false b) : ∀ (c : C) (u : Value) (fp : List Nat), (∀ b ∈ fp, S true b) → Ow I w c u fp → Rd S w c u
  | .v x, u, fp, _, r => by simp only [Ow] at r; simpa [Rd] using r.1
  | .sl false s xs, u, fp, _, r => by
    simp only [Ow] at r
    exact Rd.mono (fun k b hb _ => ⟨by rw [hb.1]; exact hI b hb.2, rfl⟩) _ _ r.2
  | .sl true s xs, u, fp, hf, r => by
    simp only [Ow] at r
    simp only [Rd]
    rcases r with ⟨rfl, rfl, rfl⟩ | ⟨b, arr, e, cap, f, fr, rfl, h1, h2, h3, h3', h4, h5, rfl⟩
    · exact ⟨none, 0, rfl, by simp, by simp, .inl rfl⟩
    · exact ⟨_, cap, rfl, h1, h2, .inr ⟨_, arr, e, fr, rfl, rfl, hf b (by simp), h3, OwE.rd hI s xs _ f (fun b' hb' => hf b' (by simp [hb'])) h5⟩⟩
theorem OwE.rd {I : Nat → Prop} {S : Bool → Nat → Prop} {w : World} (hI : ∀ b, I b → S false b) (s : Nat) : ∀ (xs : List (List C)) (us : List Value) (fp : List Nat), (∀ b ∈ fp, S true b) → OwE I w s xs us fp → RdE S w s xs us
  | [], us, fp, _, r => by simp [RdE]
  | c :: xs, us, fp, hf, r => by
    simp only [OwE] at r
    simp only [RdE]
    obtain ⟨h1, f1, f2, rfl, h2, h3⟩ := r
    exact ⟨h1, OwL.rd hI c us f1 (fun b hb => hf b (by simp [hb])) h2, OwE.rd hI s xs _ f2 (fun b hb => hf b (by simp [hb])) h3⟩
theorem OwL.rd {I : Nat → Prop} {S : Bool → Nat → Prop} {w : World} (hI : ∀ b, I b → S false b) : ∀ (cs : List C) (us : List Value) (fp : List Nat), (∀ b ∈ fp, S true b) → OwL I w cs us fp → RdL S w cs us
  | [], us, fp, _, r => by simp [RdL]
  | c :: cs, us, fp, hf, r => by
    simp only [OwL] at r
    simp only [RdL]
    obtain ⟨u, us', f1, f2, rfl, rfl, h1, h2⟩ := r
    exact ⟨u, us', rfl, Ow.rd hI c u f1 (fun b hb => hf b (by simp [hb])) h1, OwL.rd hI cs us' f2 (fun b hb => hf b (by simp [hb])) h2⟩
end

mutual
theorem Ow.exists_ {I : Nat → Prop} {w : World} : ∀ (c : C) (u : Value) (fp : List Nat), Ow I w c u fp → ∀ b ∈ fp, (w.heap[b]?).isSome = true
  | .v x, u, fp, r, b, hb => by simp only [Ow] at r; rw [r.2] at hb; simp at hb
  | .sl false s xs, u, fp, r, b, hb => by simp only [Ow] at r; rw [r.1] at hb; simp at hb
  | .sl true s xs, u, fp, r, b, hb => by
    simp only [Ow] at r
    rcases r with ⟨_, _, rfl⟩ | ⟨b', arr, e, cap, f, fr, rfl, h1, h2, h3, h3', h4, h5, rfl⟩
    · simp at hb
    · rcases List.mem_cons.1 hb with rfl | hb
      · rw [h3]; rfl
      · exact OwE.exists_ s xs _ f h5 b hb
theorem OwE.exists_ {I : Nat → Prop} {w : World} (s : Nat) : ∀ (xs : List (List C)) (us : List Value) (fp : List Nat), OwE I w s xs us fp → ∀ b ∈ fp, (w.heap[b]?).isSome = true
  | [], us, fp, r, b, hb => by simp only [OwE] at r; rw [r] at hb; simp at hb
  | c :: xs, us, fp, r, b, hb => by
    simp only [OwE] at r
    obtain ⟨h1, f1, f2, rfl, h2, h3⟩ := r
    rcases List.mem_append.1 hb with hb | hb
    · exact OwL.exists_ c us f1 h2 b hb
    · exact OwE.exists_ s xs _ f2 h3 b hb
theorem OwL.exists_ {I : Nat → Prop} {w : World} : ∀ (cs : List C) (us : List Value) (fp : List Nat), OwL I w cs us fp → ∀ b ∈ fp, (w.heap[b]?).isSome = true
  | [], us, fp, r, b, hb => by simp only [OwL] at r; rw [r] at hb; simp at hb
  | c :: cs, us, fp, r, b, hb => by
    simp only [OwL] at r
    obtain ⟨u, us', f1, f2, rfl, rfl, h1, h2⟩ := r
    rcases List.mem_append.1 hb with hb | hb
    · exact Ow.exists_ c u f1 h1 b hb
    · exact OwL.exists_ cs us' f2 h2 b hb
end
theorem Rd.one {S : Bool → Nat → Prop} {w : World} {c : C} {u : Value} (h : Rd S w c u) : u.oneCell' = true := by
  cases c with
  | v x => simp only [Rd] at h; rw [h.1]; exact h.2
  | sl k s xs => simp only [Rd] at h; obtain ⟨A, cap, rfl, _⟩ := h; rfl
theorem Ow.one {I : Nat → Prop} {w : World} {c : C} {u : Value} {fp : List Nat} (h : Ow I w c u fp) : u.oneCell' = true := by
  cases c with
  | v x => simp only [Ow] at h; rw [h.1.1]; exact h.1.2
  | sl k s xs =>
    cases k with
    | false => simp only [Ow] at h; exact Rd.one h.2
    | true => simp only [Ow] at h; rcases h with ⟨_, rfl, _⟩ | ⟨b, arr, e, cap, f, fr, rfl, _⟩ <;> rfl

theorem RdL.get {S : Bool → Nat → Prop} {w : World} : ∀ {cs : List C} {us : List Value} (_ : RdL S w cs us) (j : Nat) (c : C), cs[j]? = some c → ∃ u, us[j]? = some u ∧ Rd S w c u
  | [], us, h, j, c, hc => by simp at hc
  | d :: cs, us, h, j, c, hc => by
    simp only [RdL] at h
    obtain ⟨u, us', rfl, h1, h2⟩ := h
    cases j with
    | zero => simp at hc; subst hc; exact ⟨u, rfl, h1⟩
    | succ j => simpa using RdL.get h2 j c (by simpa using hc)
theorem RdL.drop {S : Bool → Nat → Prop} {w : World} : ∀ {cs : List C} {us : List Value} (_ : RdL S w cs us) (j : Nat), RdL S w (cs.drop j) (us.drop j)
  | [], us, h, j => by simp [RdL]
  | d :: cs, us, h, j => by
    cases j with
    | zero => simpa using h
    | succ j =>
      simp only [RdL] at h
      obtain ⟨u, us', rfl, h1, h2⟩ := h
      simpa using RdL.drop h2 j
theorem RdL.len {S : Bool → Nat → Prop} {w : World} : ∀ {cs : List C} {us : List Value} (_ : RdL S w cs us), cs.length ≤ us.length
  | [], us, h => by simp
  | d :: cs, us, h => by
    simp only [RdL] at h
    obtain ⟨u, us', rfl, h1, h2⟩ := h
    simpa using RdL.len h2
theorem RdL.take {S : Bool → Nat → Prop} {w : World} : ∀ {cs : List C} {us : List Value} (_ : RdL S w cs us) (n : Nat), RdL S w (cs.take n) us
  | [], us, h, n => by simp [RdL]
  | d :: cs, us, h, n => by
    cases n with
    | zero => simp [RdL]
    | succ n =>
      simp only [RdL] at h
      obtain ⟨u, us', rfl, h1, h2⟩ := h
      simp only [List.take_succ_cons, RdL]
      exact ⟨u, us', rfl, h1, RdL.take h2 n⟩
theorem RdE.get {S : Bool → Nat → Prop} {w : World} {s : Nat} : ∀ {xs : List (List C)} {us : List Value} (_ : RdE S w s xs us) (i : Nat) (c : List C), xs[i]? = some c → c.length = s ∧ RdL S w c (us.drop (i * s))
  | [], us, h, i, c, hc => by simp at hc
  | d :: xs, us, h, i, c, hc => by
    simp only [RdE] at h
    cases i with
    | zero => simp at hc; subst hc; simpa using ⟨h.1, h.2.1⟩
    | succ i =>
      have := RdE.get h.2.2 i c (by simpa using hc)
      rw [List.drop_drop] at this
      rw [show (i + 1) * s = s + i * s from by rw [Nat.succ_mul, Nat.add_comm]]
      exact this
theorem RdE.take {S : Bool → Nat → Prop} {w : World} {s : Nat} : ∀ {xs : List (List C)} {us : List Value} (_ : RdE S w s xs us) (n : Nat), RdE S w s (xs.take n) us
  | [], us, h, n => by simp [RdE]
  | d :: xs, us, h, n => by
    cases n with
    | zero => simp [RdE]
    | succ n =>
      simp only [RdE] at h
      simp only [List.take_succ_cons, RdE]
      exact ⟨h.1, h.2.1, RdE.take h.2.2 n⟩
theorem RdE.drop {S : Bool → Nat → Prop} {w : World} {s : Nat} : ∀ {xs : List (List C)} {us : List Value} (_ : RdE S w s xs us) (n : Nat), RdE S w s (xs.drop n) (us.drop (n * s))
  | [], us, h, n => by simp [RdE]
  | d :: xs, us, h, n => by
    cases n with
    | zero => simpa using h
    | succ n =>
      simp only [RdE] at h
      have := RdE.drop h.2.2 n
      rw [List.drop_drop] at this
      rw [show (n + 1) * s = s + n * s from by rw [Nat.succ_mul, Nat.add_comm]]
      simpa using this
theorem RdE.len {S : Bool → Nat → Prop} {w : World} {s : Nat} : ∀ {xs : List (List C)} {us : List Value} (_ : RdE S w s xs us), xs.length * s ≤ us.length
  | [], us, h => by simp
  | d :: xs, us, h => by
    simp only [RdE] at h
    have h1 := RdE.len h.2.2
    have h2 := RdL.len h.2.1
    rw [h.1] at h2
    simp only [List.length_drop] at h1
    rw [List.length_cons, Nat.succ_mul]; omega
end Go.Proofs.YtfdmlccbfbiloaaGreatDoor.Vs
/- The calculus: its values, its states, and how a state of it stands to a frame and a world. -/
namespace Go.Proofs.YtfdmlccbfbiloaaGreatDoor.Vs
open Go

/-- a place at which an own slice's value stands: slot k (part i of a tuple, cell j of a struct), or cell j of box b -/
inductive Pl where
  | sl (k i j : Nat)
  | bx (b j : Nat)
  deriving DecidableEq

inductive V where
  | dead
  | val (x : Value)
  | rd (o : Option Pl) (c : C)
  | own (s : Nat) (xs : List (List C))
  | mu (u : Value) (s : Nat) (xs : List (List C))
  | hd (q : Pl)
  | pre (q : Pl) (n : Nat)
  | ptr (b off : Nat)
  | el (q : Pl) (s i off : Nat)
  | rp (o : Option Pl) (cs : List C)
  | cl (f : Nat) (cs : List V)
  | agg (vs : List V)
  | tup (vs : List V)
  | ne (q : Pl) (s i off : Nat) (c : C)
  deriving Inhabited

structure St where
  s : List (Nat × V)
  b : List (Nat × List V)

def lk {α : Type} : List (Nat × α) → Nat → Option α
  | [], _ => none
  | (j, x) :: r, k => bif Nat.beq j k then some x else lk r k

def St.get (σ : St) (k : Nat) : V := match lk σ.s k with | some v => v | none => .dead
def St.box (σ : St) (b : Nat) : Option (List V) := lk σ.b b

inductive Tag where
  | none | imm | bor | pl (q : Pl) | bx (b : Nat)
  deriving DecidableEq

structure Gh where
  ow : Nat → Tag
  ad : Nat → Nat × Nat

/-- part (i, j) of a slot's value -/
def pick2 : Value → Nat → Nat → Option Value
  | .tuple us, i, j => match us[i]? with
    | some (.agg cs) => cs[j]?
    | x => x
  | .agg cs, _, j => cs[j]?
  | x, _, _ => some x

def hdr (g : Gh) (a : Act) (w : World) : Pl → Option Value
  | .sl k i j => pick2 (a.tmps.getD k undef) i j
  | .bx b j => if g.ow (g.ad b).1 = .bx b then w.cell? ⟨(g.ad b).1, (g.ad b).2 + j, Option.none⟩ else Option.none

def Sf (ow : Nat → Tag) : Option Pl → Bool → Nat → Prop
  | Option.none, k, b => ow b = .imm ∨ (k = true ∧ ow b = .bor)
  | some q, k, b => bif k then ow b = .pl q else ow b = .imm

def OwP (g : Gh) (w : World) (q : Pl) (s : Nat) (xs : List (List C)) (u : Value) : Prop :=
  ∃ fp, Ow (fun b => g.ow b = .imm) w (.sl true s xs) u fp ∧ fp.Nodup ∧ ∀ b ∈ fp, g.ow b = .pl q

/-- a captured value -/
def RK (g : Gh) (w : World) : V → Value → Prop
  | .val x, u => u = x ∧ x.oneCell' = true
  | .ptr b off, u => u = .pointer (some ⟨(g.ad b).1, (g.ad b).2 + off, Option.none⟩)
  | .rp none cs, u => ∃ x arr e fr, u = .pointer (some x) ∧ x.spot = Option.none ∧ (∃ k, Sf g.ow none k x.block) ∧ w.heap[x.block]? = some (.cells arr e fr) ∧ RdL (Sf g.ow none) w cs (arr.toList.drop x.off)
  | _, _ => False

/-- a cell's value -/
def RC (g : Gh) (a : Act) (w : World) (self : Pl) : V → Value → Prop
  | .dead, _ => True
  | .val x, u => u = x ∧ x.oneCell' = true
  | .rd o c, u => Rd (Sf g.ow o) w c u
  | .own s xs, u => OwP g w self s xs u
  | .mu h s xs, u => u = h ∧ OwP g w self s xs u
  | .hd q, u => hdr g a w q = some u ∧ ∃ A len cap, u = .slice A len cap
  | .pre q n, u => ∃ A len cap, hdr g a w q = some (.slice A len cap) ∧ n ≤ len ∧ u = .slice A n cap
  | .ptr b off, u => u = .pointer (some ⟨(g.ad b).1, (g.ad b).2 + off, Option.none⟩)
  | .el q s i off, u => ∃ b len cap, hdr g a w q = some (.slice (some ⟨b, 0, Option.none⟩) len cap) ∧ i < len ∧ u = .pointer (some ⟨b, i * s + off, Option.none⟩)
  | .rp o cs, u => ∃ x arr e fr, u = .pointer (some x) ∧ x.spot = Option.none ∧ (∃ k, Sf g.ow o k x.block) ∧ w.heap[x.block]? = some (.cells arr e fr) ∧ RdL (Sf g.ow o) w cs (arr.toList.drop x.off)
  | .cl f cs, u => ∃ us : List Value, u = .func (.func f) #[] us.toArray ∧ us.length = cs.length ∧ ∀ (j : Nat) v x, cs[j]? = some v → us[j]? = some x → RK g w v x
  | .agg _, _ | .tup _, _ => False
  | .ne q s i off c, u => Rd (Sf g.ow (some q)) w c u ∧ ∃ b len cap, hdr g a w q = some (.slice (some ⟨b, 0, Option.none⟩) len cap) ∧ i < len ∧ g.ow b = .pl q ∧ w.cell? ⟨b, i * s + off, Option.none⟩ = some u

/-- a part of a tuple, or a slot's value that is no tuple -/
def RG (g : Gh) (a : Act) (w : World) (k i : Nat) : V → Value → Prop
  | .agg vs, u => ∃ us : Array Value, u = .agg us ∧ us.size = vs.length ∧ ∀ (j : Nat) v x, vs[j]? = some v → us[j]? = some x → RC g a w (.sl k i j) v x
  | v, u => RC g a w (.sl k i 0) v u

def RT (g : Gh) (a : Act) (w : World) (k : Nat) : V → Value → Prop
  | .tup vs, u => ∃ us : Array Value, u = .tuple us ∧ us.size = vs.length ∧ ∀ (i : Nat) v x, vs[i]? = some v → us[i]? = some x → RG g a w k i v x
  | v, u => RG g a w k 0 v u

def RB (g : Gh) (a : Act) (w : World) (b : Nat) (cs : List V) : Prop :=
  g.ow (g.ad b).1 = .bx b ∧ ∃ arr e fr, w.heap[(g.ad b).1]? = some (.cells arr e fr) ∧
    ∀ (j : Nat) v, cs[j]? = some v → ¬ (fr.1 ≤ (g.ad b).2 + j ∧ (g.ad b).2 + j < fr.2) ∧ ∃ u, arr[(g.ad b).2 + j]? = some u ∧ u.oneCell' = true ∧ RC g a w (.bx b j) v u

/-- what is known of some blocks (package variables) wherever a function begins; nobody turns them -/
class Gl where
  fact : List (Nat × (List Value → Prop))
variable [Gl]
set_option linter.unusedSectionVars false
def GOk (ow : Nat → Tag) (w : World) : Prop := ∀ p ∈ Gl.fact, ow p.1 = .imm ∧ ∃ arr e fr, w.heap[p.1]? = some (.cells arr e fr) ∧ p.2 arr.toList
theorem gok_none {ow : Nat → Tag} {w : World} (h : Gl.fact = []) : GOk ow w := fun p hp => by rw [h] at hp; cases hp

/-- how things stood when the call began: the world, whose memory was whose, which cells a pointer gave, how many slots there are -/
structure Bs where
  w0 : World
  ow0 : Nat → Tag
  rng : Nat → Nat × Nat
  n : Nat
  gok : GOk ow0 w0

def Fr (B : Bs) (g : Gh) (w : World) : Prop :=
  w.os = B.w0.os ∧ w.tape = B.w0.tape ∧ w.output = B.w0.output ∧ B.w0.heap.size ≤ w.heap.size ∧
  (∀ b, b < B.w0.heap.size → (B.ow0 b = .imm ∨ B.ow0 b = .bor) → g.ow b = B.ow0 b ∧ w.heap[b]? = B.w0.heap[b]?) ∧
  (∀ b k, b < B.w0.heap.size → B.ow0 b = .bx k → B.n ≤ k ∧ g.ad k = (b, (B.rng k).1) ∧ g.ow b = .bx k ∧ ∃ arr0 arr e fr, B.w0.heap[b]? = some (.cells arr0 e fr) ∧ w.heap[b]? = some (.cells arr e fr) ∧
    arr.size = arr0.size ∧ ∀ j, (j < (B.rng k).1 ∨ (B.rng k).2 ≤ j) → arr[j]? = arr0[j]?) ∧
  (∀ b, b < B.w0.heap.size → B.ow0 b ≠ .none)

/-- what a pointer gave keeps its length -/
def Ln (B : Bs) (σ : St) : Prop := ∀ b k cs, b < B.w0.heap.size → B.ow0 b = .bx k → σ.box k = some cs → (B.rng k).1 + cs.length ≤ (B.rng k).2
/-- the state σ is what the frame and the world are -/
def RS (B : Bs) (g : Gh) (σ : St) (a : Act) (w : World) : Prop :=
  (Fr B g w ∧ Ln B σ) ∧ a.defers = [] ∧ a.tmps.size = B.n ∧ (∀ k, RT g a w k (σ.get k) (a.tmps.getD k undef)) ∧ ∀ b cs, σ.box b = some cs → RB g a w b cs

theorem RS.gok {B : Bs} {g : Gh} {σ : St} {a : Act} {w : World} (r : RS B g σ a w) : GOk g.ow w := by
  intro p hp
  obtain ⟨h1, arr, e, fr, h2, h3⟩ := B.gok p hp
  have hlt : p.1 < B.w0.heap.size := (Array.getElem?_eq_some_iff.1 h2).1
  obtain ⟨k1, k2⟩ := r.1.1.2.2.2.2.1 p.1 hlt (.inl h1)
  exact ⟨k1.trans h1, arr, e, fr, k2.trans h2, h3⟩
theorem GOk.imm {ow ow' : Nat → Tag} {w : World} (h : GOk ow w) (hi : ∀ b, ow b = .imm → ow' b = .imm) : GOk ow' w := fun p hp => ⟨hi _ (h p hp).1, (h p hp).2⟩

/-! #### what a value leans on -/
/-- whose head it shares; whose content it shows -/
def V.hps : V → List Pl
  | .hd q | .pre q _ | .el q _ _ _ | .ne q _ _ _ _ => [q]
  | _ => []
def V.cps : V → List Pl
  | .rd (some q) _ | .rp (some q) _ | .ne q _ _ _ _ => [q]
  | _ => []
def V.pls1 (v : V) : List Pl := v.hps ++ v.cps
def V.pls : V → List Pl
  | .agg vs => vs.flatMap V.pls1
  | .tup vs => vs.flatMap fun v => match v with | .agg ws => ws.flatMap V.pls1 | v => v.pls1
  | v => v.pls1
def V.bxs0 : V → List Nat
  | .ptr b _ => [b]
  | _ => []
def V.bxs1 : V → List Nat
  | .ptr b _ => [b]
  | .cl _ cs => cs.flatMap V.bxs0
  | _ => []
def isOwn : V → Bool
  | .own _ _ | .mu _ _ _ => true
  | _ => false

/-- a cell's value stays what it is where what it leans on stays -/
theorem RC.mono {g g' : Gh} {a a' : Act} {w w' : World} {self : Pl} {v : V} {u : Value}
    (hD : ∀ b, (w.heap[b]?).isSome = true → (g.ow b = .imm ∨ g.ow b = .bor ∨ (isOwn v = true ∧ g.ow b = .pl self) ∨ ∃ q ∈ v.cps, g.ow b = .pl q) → g'.ow b = g.ow b ∧ w'.heap[b]? = w.heap[b]?)
    (hh : ∀ q ∈ v.hps, ∀ x, hdr g a w q = some x → hdr g' a' w' q = some x) (hb : ∀ b ∈ v.bxs1, g'.ad b = g.ad b) (h : RC g a w self v u) : RC g' a' w' self v u := by
  have hS : ∀ o, (∀ q, o = some q → q ∈ v.cps) → ∀ k b, Sf g.ow o k b → (w.heap[b]?).isSome = true → Sf g'.ow o k b ∧ w'.heap[b]? = w.heap[b]? := by
    intro o ho k b hs hx
    cases o with
    | none =>
      have := hD b hx (by simp only [Sf] at hs; rcases hs with hs | hs; exact .inl hs; exact .inr (.inl hs.2))
      exact ⟨by simp only [Sf] at hs ⊢; rw [this.1]; exact hs, this.2⟩
    | some q =>
      have := hD b hx (by
        cases k with
        | true => exact .inr (.inr (.inr ⟨q, ho q rfl, by simpa [Sf] using hs⟩))
        | false => exact .inl (by simpa [Sf] using hs))
      refine ⟨?_, this.2⟩
      cases k with
      | true => simpa [Sf, this.1] using hs
      | false => simpa [Sf, this.1] using hs
  have hO : isOwn v = true → ∀ s xs u, OwP g w self s xs u → OwP g' w' self s xs u := by
    rintro hv s xs u ⟨fp, h1, h2, h3⟩
    have hex : ∀ b ∈ fp, (w.heap[b]?).isSome = true := Ow.exists_ _ u fp h1
    refine ⟨fp, Ow.mono (fun b hb hx => ?_) _ u fp (fun b hb => (hD b (hex b hb) (.inr (.inr (.inl ⟨hv, h3 b hb⟩)))).2) h1, h2, fun b hb => ?_⟩
    · have := hD b hx (.inl hb)
      exact ⟨by show g'.ow b = _; rw [this.1]; exact hb, this.2⟩
    · rw [(hD b (hex b hb) (.inr (.inr (.inl ⟨hv, h3 b hb⟩)))).1]; exact h3 b hb
  cases v with
  | dead => trivial
  | val x => exact h
  | rd o c => exact Rd.mono (hS o (by rintro q rfl; simp [V.cps])) c u h
  | own s xs => exact hO rfl s xs u h
  | mu x s xs => exact ⟨h.1, hO rfl s xs u h.2⟩
  | hd q => exact ⟨hh q (by simp [V.hps]) _ h.1, h.2⟩
  | pre q n =>
    obtain ⟨A, len, cap, h1, h2⟩ := h
    exact ⟨A, len, cap, hh q (by simp [V.hps]) _ h1, h2⟩
  | ptr b off => simpa [RC, hb b (by simp [V.bxs1])] using h
  | el q s i off =>
    obtain ⟨b, len, cap, h1, h2⟩ := h
    exact ⟨b, len, cap, hh q (by simp [V.hps]) _ h1, h2⟩
  | rp o cs =>
    obtain ⟨x, arr, e, fr, h1, h2, ⟨k, h3⟩, h4, h5⟩ := h
    have hs := hS o (by rintro q rfl; simp [V.cps])
    have := hs k x.block h3 (by rw [h4]; rfl)
    exact ⟨x, arr, e, fr, h1, h2, ⟨k, this.1⟩, this.2.trans h4, RdL.mono hs cs _ h5⟩
  | cl f cs =>
    obtain ⟨us, h1, h2, h3⟩ := h
    refine ⟨us, h1, h2, fun j v x hv hx => ?_⟩
    have hr := h3 j v x hv hx
    cases v with
    | val y => exact hr
    | ptr b off =>
      have : b ∈ (V.cl f cs).bxs1 := by
        simp only [V.bxs1, List.mem_flatMap]
        exact ⟨.ptr b off, List.mem_of_getElem? hv, by simp [V.bxs0]⟩
      simpa [RK, hb b this] using hr
    | rp o cs =>
      cases o with
      | some q => exact hr.elim
      | none =>
        obtain ⟨x, arr, e, fr, h1, h2, ⟨k, h3⟩, h4, h5⟩ := hr
        have hs := hS none (by rintro q h; cases h)
        have := hs k x.block h3 (by rw [h4]; rfl)
        exact ⟨x, arr, e, fr, h1, h2, ⟨k, this.1⟩, this.2.trans h4, RdL.mono hs cs _ h5⟩
    | _ => exact hr.elim
  | agg vs => exact h.elim
  | tup vs => exact h.elim
  | ne q s i off c =>
    obtain ⟨h1, b, len, cap, h2, h3, h4, h5⟩ := h
    have hex : (w.heap[b]?).isSome = true := by
      cases e : w.heap[b]? with
      | none => simp only [World.cell?, e] at h5; cases h5
      | some _ => rfl
    have hb := hD b hex (.inr (.inr (.inr ⟨q, by simp [V.cps], h4⟩)))
    refine ⟨Rd.mono (hS (some q) (by rintro q' e; injection e with e; subst e; simp [V.cps])) c u h1, b, len, cap, hh q (by simp [V.hps]) _ h2, h3, hb.1.trans h4, ?_⟩
    simp only [World.cell?, hb.2] at h5 ⊢
    exact h5

/-! #### to forget: what stands at the places f, what leans on them, the boxes h -/
/-- what is forgotten: heads, contents, boxes -/
structure KF where
  h : Pl → Bool
  c : Pl → Bool
  b : Nat → Bool
def V.lean1 (κ : KF) (self : Pl) (v : V) : Bool := (isOwn v && κ.c self) || v.hps.any κ.h || v.cps.any κ.c || v.bxs1.any κ.b
def V.kill1 (κ : KF) (self : Pl) (v : V) : V :=
  bif v.lean1 κ self then .dead else v
def killL (κ : KF) (p : Nat → Pl) : Nat → List V → List V
  | _, [] => []
  | j, v :: r => v.kill1 κ (p j) :: killL κ p (j + 1) r
def V.killG (κ : KF) (k i : Nat) : V → V
  | .agg vs => .agg (killL κ (.sl k i) 0 vs)
  | v => v.kill1 κ (.sl k i 0)
def killGs (κ : KF) (k : Nat) : Nat → List V → List V
  | _, [] => []
  | i, v :: r => v.killG κ k i :: killGs κ k (i + 1) r
def V.killT (κ : KF) (k : Nat) : V → V
  | .tup vs => .tup (killGs κ k 0 vs)
  | v => v.killG κ k 0
def killS (κ : KF) : List (Nat × V) → List (Nat × V)
  | [] => []
  | (k, v) :: r => (k, v.killT κ k) :: killS κ r
def killB (κ : KF) : List (Nat × List V) → List (Nat × List V)
  | [] => []
  | (b, cs) :: r => bif κ.b b then killB κ r else (b, killL κ (.bx b) 0 cs) :: killB κ r
def St.kill (κ : KF) (σ : St) : St := ⟨killS κ σ.s, killB κ σ.b⟩

theorem killL_get (κ : KF) (p : Nat → Pl) : ∀ (vs : List V) (j i : Nat) (v : V), (killL κ p j vs)[i]? = some v → ∃ v0, vs[i]? = some v0 ∧ v = v0.kill1 κ (p (j + i))
  | [], _, _, _, e => by simp [killL] at e
  | x :: r, j, i, v, e => by
    cases i with
    | zero => simp [killL] at e; exact ⟨x, rfl, by simpa using e.symm⟩
    | succ i =>
      obtain ⟨v0, h1, h2⟩ := killL_get κ p r (j + 1) i v (by simpa [killL] using e)
      exact ⟨v0, by simpa using h1, by rw [h2, show j + 1 + i = j + (i + 1) from by omega]⟩
theorem killL_len (κ : KF) (p : Nat → Pl) : ∀ (vs : List V) (j : Nat), (killL κ p j vs).length = vs.length
  | [], _ => rfl
  | x :: r, j => by simp [killL, killL_len κ p r (j + 1)]
theorem killGs_get (κ : KF) (k : Nat) : ∀ (vs : List V) (j i : Nat) (v : V), (killGs κ k j vs)[i]? = some v → ∃ v0, vs[i]? = some v0 ∧ v = v0.killG κ k (j + i)
  | [], _, _, _, e => by simp [killGs] at e
  | x :: r, j, i, v, e => by
    cases i with
    | zero => simp [killGs] at e; exact ⟨x, rfl, by simpa using e.symm⟩
    | succ i =>
      obtain ⟨v0, h1, h2⟩ := killGs_get κ k r (j + 1) i v (by simpa [killGs] using e)
      exact ⟨v0, by simpa using h1, by rw [h2, show j + 1 + i = j + (i + 1) from by omega]⟩
theorem killGs_len (κ : KF) (k : Nat) : ∀ (vs : List V) (j : Nat), (killGs κ k j vs).length = vs.length
  | [], _ => rfl
  | x :: r, j => by simp [killGs, killGs_len κ k r (j + 1)]
theorem killS_get (κ : KF) : ∀ (s : List (Nat × V)) (k : Nat), lk (killS κ s) k = (lk s k).map (fun v => v.killT κ k)
  | [], _ => rfl
  | (j, v) :: r, k => by
    simp only [killS, lk]
    cases e : Nat.beq j k with
    | true => have := Nat.eq_of_beq_eq_true e; subst this; rfl
    | false => simpa using killS_get κ r k
theorem killB_get (κ : KF) : ∀ (s : List (Nat × List V)) (b : Nat) (cs : List V), lk (killB κ s) b = some cs → κ.b b = false ∧ ∃ cs0, lk s b = some cs0 ∧ cs = killL κ (.bx b) 0 cs0
  | [], _, _, e => by simp [killB, lk] at e
  | (j, v) :: r, b, cs, e => by
    simp only [killB] at e
    cases hj : κ.b j with
    | true =>
      simp only [hj, cond_true] at e
      obtain ⟨h1, cs0, h2, h3⟩ := killB_get κ r b cs e
      refine ⟨h1, cs0, ?_, h3⟩
      cases hb : Nat.beq j b with
      | false => simp only [lk, hb, cond_false]; exact h2
      | true => have := Nat.eq_of_beq_eq_true hb; subst this; rw [hj] at h1; cases h1
    | false =>
      simp only [hj, cond_false, lk] at e
      cases hb : Nat.beq j b with
      | true =>
        have := Nat.eq_of_beq_eq_true hb; subst this
        simp only [hb, cond_true, Option.some.injEq] at e
        exact ⟨hj, v, by simp only [lk, hb, cond_true], e.symm⟩
      | false =>
        simp only [hb, cond_false] at e
        obtain ⟨h1, cs0, h2, h3⟩ := killB_get κ r b cs e
        exact ⟨h1, cs0, by simp only [lk, hb, cond_false]; exact h2, h3⟩

/-- what may turn where the places f and the boxes h are forgotten; the boxes m are told anew -/
structure Turns (κ : KF) (m : Nat → Bool) (g : Gh) (a : Act) (w : World) (g' : Gh) (a' : Act) (w' : World) : Prop where
  blk : ∀ b, (w.heap[b]?).isSome = true → (g.ow b = .imm ∨ g.ow b = .bor ∨ ∃ q, κ.c q = false ∧ g.ow b = .pl q) → g'.ow b = g.ow b ∧ w'.heap[b]? = w.heap[b]?
  box : ∀ b c, (w.heap[b]?).isSome = true → κ.b c = false → m c = false → g.ow b = .bx c → g'.ow b = g.ow b ∧ w'.heap[b]? = w.heap[b]?
  hdr : ∀ q x, κ.h q = false → hdr g a w q = some x → hdr g' a' w' q = some x
  ad : ∀ b, κ.b b = false → g'.ad b = g.ad b

theorem kill1_or (κ : KF) (self : Pl) (v : V) : v.kill1 κ self = .dead ∨ v.kill1 κ self = v := by
  unfold V.kill1
  cases v.lean1 κ self with
  | true => exact .inl rfl
  | false => exact .inr rfl
theorem RC.kill {κ : KF} {m : Nat → Bool} {g g' : Gh} {a a' : Act} {w w' : World} {self : Pl} {v : V} {u : Value}
    (T : Turns κ m g a w g' a' w') (r : RC g a w self v u) : RC g' a' w' self (v.kill1 κ self) u := by
  cases hc : v.lean1 κ self with
  | true => simp only [V.kill1, hc, cond_true, RC]
  | false =>
    have : v.kill1 κ self = v := by simp only [V.kill1, hc, cond_false]
    rw [this]
    simp only [V.lean1, Bool.or_eq_false_iff, Bool.and_eq_false_iff, List.any_eq_false] at hc
    obtain ⟨⟨⟨h1, h2⟩, h2'⟩, h3⟩ := hc
    refine RC.mono (fun b hx ht => T.blk b hx ?_) (fun q hq x hx => T.hdr q x (by simpa using h2 q hq) hx) (fun b hb => T.ad b (by simpa using h3 b hb)) r
    rcases ht with ht | ht | ⟨ht, ht'⟩ | ⟨q', hq', ht⟩
    · exact .inl ht
    · exact .inr (.inl ht)
    · refine .inr (.inr ⟨self, ?_, ht'⟩)
      rcases h1 with h1 | h1
      · rw [ht] at h1; cases h1
      · exact h1
    · exact .inr (.inr ⟨q', by simpa using h2' q' hq', ht⟩)
theorem RG.kill {κ : KF} {m : Nat → Bool} {g g' : Gh} {a a' : Act} {w w' : World} {k i : Nat} {v : V} {u : Value}
    (T : Turns κ m g a w g' a' w') (r : RG g a w k i v u) : RG g' a' w' k i (v.killG κ k i) u := by
  cases v with
  | agg vs =>
    obtain ⟨us, rfl, h1, h2⟩ := r
    refine ⟨us, rfl, by rw [h1, killL_len], fun j v x hv hx => ?_⟩
    obtain ⟨v0, hv0, rfl⟩ := killL_get κ (.sl k i) vs 0 j v hv
    simpa using RC.kill T (h2 j v0 x hv0 hx)
  | _ =>
    simp only [RG] at r
    have := RC.kill T r
    simp only [V.killG]
    rcases kill1_or κ (.sl k i 0) _ with e | e <;> rw [e] at this ⊢ <;> exact this
theorem RT.kill {κ : KF} {m : Nat → Bool} {g g' : Gh} {a a' : Act} {w w' : World} {k : Nat} {v : V} {u : Value}
    (T : Turns κ m g a w g' a' w') (r : RT g a w k v u) : RT g' a' w' k (v.killT κ k) u := by
  cases v with
  | tup vs =>
    obtain ⟨us, rfl, h1, h2⟩ := r
    refine ⟨us, rfl, by rw [h1, killGs_len], fun i v x hv hx => ?_⟩
    obtain ⟨v0, hv0, rfl⟩ := killGs_get κ k vs 0 i v hv
    simpa using RG.kill T (h2 i v0 x hv0 hx)
  | agg vs => exact RG.kill (i := 0) T (by simpa only [RT] using r)
  | _ =>
    simp only [RT, RG] at r
    have := RC.kill T r
    simp only [V.killT, V.killG]
    rcases kill1_or κ (.sl k 0 0) _ with e | e <;> rw [e] at this ⊢ <;> exact this
theorem RB.kill {κ : KF} {m : Nat → Bool} {g g' : Gh} {a a' : Act} {w w' : World} {b : Nat} {cs : List V}
    (T : Turns κ m g a w g' a' w') (hb : κ.b b = false) (hm : m b = false) (r : RB g a w b cs) : RB g' a' w' b (killL κ (.bx b) 0 cs) := by
  obtain ⟨h1, arr, e, fr, h2, h3⟩ := r
  have hb' := T.ad b hb
  have := T.box (g.ad b).1 b (by rw [h2]; rfl) hb hm h1
  refine ⟨by rw [hb', this.1]; exact h1, arr, e, fr, by rw [hb']; exact this.2.trans h2, fun j v hv => ?_⟩
  obtain ⟨v0, hv0, rfl⟩ := killL_get κ (.bx b) cs 0 j v hv
  obtain ⟨h4, u, h5, h6, h7⟩ := h3 j v0 hv0
  rw [hb']
  exact ⟨h4, u, h5, h6, by simpa using RC.kill T h7⟩
/-- to forget, and what may turn then; slot d may turn -/
theorem RS.kill0 {B : Bs} {κ : KF} {m : Nat → Bool} {g g' : Gh} {σ : St} {a a' : Act} {w w' : World} (d : Option Nat) (r : RS B g σ a w) (T : Turns κ m g a w g' a' w') (F : Fr B g' w')
    (hd : a'.defers = []) (hn : a'.tmps.size = a.tmps.size) (ht : ∀ k, d ≠ some k → a'.tmps.getD k undef = a.tmps.getD k undef) :
    (Fr B g' w' ∧ Ln B (σ.kill κ)) ∧ a'.defers = [] ∧ a'.tmps.size = B.n ∧ (∀ k, d ≠ some k → RT g' a' w' k ((σ.kill κ).get k) (a'.tmps.getD k undef)) ∧ ∀ b cs, m b = false → (σ.kill κ).box b = some cs → RB g' a' w' b cs := by
  obtain ⟨r1, r2, r3, r4, r5⟩ := r
  refine ⟨⟨F, fun x k cs hlt h0 hc => ?_⟩, hd, hn.trans r3, fun k hk => ?_, fun b cs hm hb => ?_⟩
  · obtain ⟨_, cs0, h2, rfl⟩ := killB_get κ σ.b k cs hc
    rw [killL_len]
    exact r1.2 x k cs0 hlt h0 h2
  · rw [ht k hk]
    have := r4 k
    unfold St.get at this ⊢
    simp only [St.kill, killS_get]
    cases e : lk σ.s k with
    | none => simp [RT, RG, RC]
    | some v => rw [e] at this; exact RT.kill T this
  · obtain ⟨h1, cs0, h2, rfl⟩ := killB_get κ σ.b b cs hb
    exact RB.kill T h1 hm (r5 b cs0 h2)
theorem RS.kill {B : Bs} {κ : KF} {g g' : Gh} {σ : St} {a a' : Act} {w w' : World} (r : RS B g σ a w) (T : Turns κ (fun _ => false) g a w g' a' w') (F : Fr B g' w')
    (hd : a'.defers = []) (hn : a'.tmps.size = a.tmps.size) (ht : ∀ k, a'.tmps.getD k undef = a.tmps.getD k undef) : RS B g' (σ.kill κ) a' w' := by
  obtain ⟨h1, h2, h3, h4, h5⟩ := RS.kill0 none r T F hd hn (fun k _ => ht k)
  exact ⟨h1, h2, h3, fun k => h4 k (by simp), fun b cs => h5 b cs rfl⟩

/-! #### a value is put into a slot -/
def V.pls2 : V → List Pl := V.pls
theorem RC.ofHdr {g : Gh} {a a' : Act} {w : World} {self : Pl} {v : V} {u : Value} (hh : ∀ q ∈ v.pls1, ∀ x, hdr g a w q = some x → hdr g a' w q = some x) (h : RC g a w self v u) : RC g a' w self v u :=
  RC.mono (fun _ _ _ => ⟨rfl, rfl⟩) (fun q hq => hh q (by simp [V.pls1, hq])) (fun _ _ => rfl) h
theorem RG.ofHdr {g : Gh} {a a' : Act} {w : World} {k i : Nat} {v : V} {u : Value} (hh : ∀ q ∈ (match v with | .agg ws => ws.flatMap V.pls1 | v => v.pls1), ∀ x, hdr g a w q = some x → hdr g a' w q = some x) (h : RG g a w k i v u) : RG g a' w k i v u := by
  cases v with
  | agg vs =>
    obtain ⟨us, rfl, h1, h2⟩ := h
    exact ⟨us, rfl, h1, fun j v x hv hx => RC.ofHdr (fun q hq => hh q (List.mem_flatMap.2 ⟨v, List.mem_of_getElem? hv, hq⟩)) (h2 j v x hv hx)⟩
  | _ => simp only [RG] at h ⊢; exact RC.ofHdr hh h
theorem RT.ofHdr {g : Gh} {a a' : Act} {w : World} {k : Nat} {v : V} {u : Value} (hh : ∀ q ∈ v.pls, ∀ x, hdr g a w q = some x → hdr g a' w q = some x) (h : RT g a w k v u) : RT g a' w k v u := by
  cases v with
  | tup vs =>
    obtain ⟨us, rfl, h1, h2⟩ := h
    exact ⟨us, rfl, h1, fun j v x hv hx => RG.ofHdr (fun q hq => hh q (List.mem_flatMap.2 ⟨v, List.mem_of_getElem? hv, hq⟩)) (h2 j v x hv hx)⟩
  | _ => simp only [RT] at h ⊢; exact RG.ofHdr hh h

def inSl (d : Nat) : Pl → Bool
  | .sl k _ _ => Nat.beq k d
  | _ => false
def inBx (d : Nat) : Pl → Bool
  | .bx b _ => Nat.beq b d
  | _ => false
def noB : Nat → Bool := fun _ => false
def noP : Pl → Bool := fun _ => false
/-- slot d is forgotten -/
def kfS (d : Nat) : KF := ⟨inSl d, inSl d, noB⟩
/-- box d is forgotten -/
def kfB (d : Nat) : KF := ⟨inBx d, inBx d, Nat.beq d⟩
def kf0 : KF := ⟨noP, noP, noB⟩

def leanL (κ : KF) (p : Nat → Pl) : Nat → List V → Bool
  | _, [] => false
  | j, v :: r => v.lean1 κ (p j) || leanL κ p (j + 1) r
def V.leanG (κ : KF) (k i : Nat) : V → Bool
  | .agg vs => leanL κ (.sl k i) 0 vs
  | v => v.lean1 κ (.sl k i 0)
def leanGs (κ : KF) (k : Nat) : Nat → List V → Bool
  | _, [] => false
  | i, v :: r => v.leanG κ k i || leanGs κ k (i + 1) r
def V.leanT (κ : KF) (k : Nat) : V → Bool
  | .tup vs => leanGs κ k 0 vs
  | v => v.leanG κ k 0
/-- a quick look first: a plain value leans on nothing -/
def V.leanQ (κ : KF) (k : Nat) : V → Bool
  | .val _ => false
  | .dead => false
  | v => v.leanT κ k
def leanS (κ : KF) : List (Nat × V) → Bool
  | [] => false
  | (k, v) :: r => bif v.leanQ κ k then true else leanS κ r
def leanB (κ : KF) : List (Nat × List V) → Bool
  | [] => false
  | (b, cs) :: r => κ.b b || leanL κ (.bx b) 0 cs || leanB κ r
theorem lean1_kill {κ : KF} {self : Pl} {v : V} (e : v.lean1 κ self = false) : v.kill1 κ self = v := by
  simp only [V.kill1, e, cond_false]
theorem leanL_kill {κ : KF} {p : Nat → Pl} : ∀ (vs : List V) (j : Nat), leanL κ p j vs = false → killL κ p j vs = vs
  | [], _, _ => rfl
  | v :: r, j, e => by
    simp only [leanL, Bool.or_eq_false_iff] at e
    simp only [killL, lean1_kill e.1, leanL_kill r _ e.2]
theorem leanG_kill {κ : KF} {k i : Nat} {v : V} (e : v.leanG κ k i = false) : v.killG κ k i = v := by
  cases v with
  | agg vs => simp only [V.killG]; rw [leanL_kill vs 0 e]
  | _ => simp only [V.killG]; exact lean1_kill e
theorem leanGs_kill {κ : KF} {k : Nat} : ∀ (vs : List V) (j : Nat), leanGs κ k j vs = false → killGs κ k j vs = vs
  | [], _, _ => rfl
  | v :: r, j, e => by
    simp only [leanGs, Bool.or_eq_false_iff] at e
    simp only [killGs, leanG_kill e.1, leanGs_kill r _ e.2]
theorem leanT_kill {κ : KF} {k : Nat} {v : V} (e : v.leanT κ k = false) : v.killT κ k = v := by
  cases v with
  | tup vs => simp only [V.killT]; rw [leanGs_kill vs 0 e]
  | _ => simp only [V.killT]; exact leanG_kill e
theorem leanQ_eq {κ : KF} {k : Nat} (v : V) : v.leanQ κ k = v.leanT κ k := by
  cases v <;> first | rfl | simp [V.leanQ, V.leanT, V.leanG, V.lean1, isOwn, V.hps, V.cps, V.bxs1]
theorem leanS_kill {κ : KF} : ∀ (s : List (Nat × V)), leanS κ s = false → killS κ s = s
  | [], _ => rfl
  | (k, v) :: r, e => by
    simp only [leanS, leanQ_eq] at e
    cases h : v.leanT κ k with
    | true => simp only [h, cond_true] at e; cases e
    | false =>
      simp only [h, cond_false] at e
      simp only [killS, leanT_kill h, leanS_kill r e]
theorem leanB_kill {κ : KF} : ∀ (s : List (Nat × List V)), leanB κ s = false → killB κ s = s
  | [], _ => rfl
  | (k, v) :: r, e => by
    simp only [leanB, Bool.or_eq_false_iff] at e
    simp only [killB, e.1.1, cond_false, leanL_kill v 0 e.1.2, leanB_kill r e.2]

/-- to hand on a list whose rows stand written out -/
def fcL {α : Type} : List α → (List α → Prop) → Prop
  | [], k => k []
  | x :: r, k => fcL r fun r' => k (x :: r')
theorem fcL_eq {α : Type} : ∀ (l : List α) (k : List α → Prop), fcL l k → k l
  | [], _, h => h
  | x :: r, k, h => fcL_eq r (fun r' => k (x :: r')) h

/-- to hand on a value whose form stands written out -/
def fcV1 (v : V) (K : V → Prop) : Prop :=
  match v with
  | .dead => K .dead
  | .val x => (match x with
    | .int k n => K (.val (.int k n))
    | .bool b => K (.val (.bool b))
    | .string s => K (.val (.string s))
    | x => K (.val x))
  | .rd o c => (match o with
    | none => K (.rd none c)
    | some q => K (.rd (some q) c))
  | .own s xs => K (.own s xs)
  | .mu h s xs => K (.mu h s xs)
  | .hd q => (match q with
    | .sl k i j => K (.hd (.sl k i j))
    | .bx b j => K (.hd (.bx b j)))
  | .pre q n => K (.pre q n)
  | .ptr b off => K (.ptr b off)
  | .el q s i off => K (.el q s i off)
  | .rp o cs => K (.rp o cs)
  | .cl f cs => K (.cl f cs)
  | .agg vs => K (.agg vs)
  | .tup vs => K (.tup vs)
  | .ne q s i off c => K (.ne q s i off c)
theorem fcV1_eq {v : V} {K : V → Prop} (h : fcV1 v K) : K v := by
  unfold fcV1 at h
  split at h
  · exact h
  · split at h <;> exact h
  · split at h <;> exact h
  · exact h
  · exact h
  · split at h <;> exact h
  all_goals exact h
def fcVs : List V → (List V → Prop) → Prop
  | [], K => K []
  | v :: r, K => fcV1 v fun v => fcVs r fun r => K (v :: r)
theorem fcVs_eq : ∀ {l : List V} {K : List V → Prop}, fcVs l K → K l
  | [], _, h => h
  | v :: r, K, h => fcVs_eq (K := fun r => K (v :: r)) (fcV1_eq (K := fun v => fcVs r fun r => K (v :: r)) h)
def fcV (v : V) (K : V → Prop) : Prop := fcV1 v fun v => match v with
  | .agg vs => fcVs vs fun vs => K (.agg vs)
  | v => K v
theorem fcV_eq {v : V} {K : V → Prop} (h : fcV v K) : K v := by
  unfold fcV at h
  have h := fcV1_eq h
  split at h
  · exact fcVs_eq (K := fun vs => K (.agg vs)) h
  · exact h
def fcS : List (Nat × V) → (List (Nat × V) → Prop) → Prop
  | [], K => K []
  | (k, v) :: r, K => fcV v fun v => fcS r fun r => K ((k, v) :: r)
theorem fcS_eq : ∀ {l : List (Nat × V)} {K : List (Nat × V) → Prop}, fcS l K → K l
  | [], _, h => h
  | (k, v) :: r, K, h => fcS_eq (K := fun r => K ((k, v) :: r)) (fcV_eq (K := fun v => fcS r fun r => K ((k, v) :: r)) h)
def fcB : List (Nat × List V) → (List (Nat × List V) → Prop) → Prop
  | [], K => K []
  | (k, v) :: r, K => fcVs v fun v => fcB r fun r => K ((k, v) :: r)
theorem fcB_eq : ∀ {l : List (Nat × List V)} {K : List (Nat × List V) → Prop}, fcB l K → K l
  | [], _, h => h
  | (k, v) :: r, K, h => fcB_eq (K := fun r => K ((k, v) :: r)) (fcVs_eq (K := fun v => fcB r fun r => K ((k, v) :: r)) h)

/-- to forget the places f and the boxes h, where anything leans on them -/
def vforget (σ : St) (κ : KF) (K : St → Prop) : Prop :=
  bif leanS κ σ.s || leanB κ σ.b then fcS (killS κ σ.s) fun s => fcB (killB κ σ.b) fun b => K ⟨s, b⟩ else K σ
theorem vforget_eq {σ : St} {κ : KF} {K : St → Prop} (hv : vforget σ κ K) : K (σ.kill κ) := by
  unfold vforget at hv
  cases e : leanS κ σ.s || leanB κ σ.b with
  | true => simp only [e, cond_true] at hv; exact fcB_eq (fcS_eq hv)
  | false =>
    simp only [e, cond_false] at hv
    simp only [Bool.or_eq_false_iff] at e
    have : σ.kill κ = σ := by simp only [St.kill, leanS_kill _ e.1, leanB_kill _ e.2]
    rw [this]; exact hv

def vput (σ : St) (d : Nat) (v : V) (K : St → Prop) : Prop :=
  fcV v fun v => bif v.pls.any (inSl d) then False else vforget σ (kfS d) fun σ' => match σ' with
    | ⟨s, b⟩ => K ⟨(d, v) :: s, b⟩

theorem getD_put (a : Act) (d k : Nat) (u : Value) (hd : d < a.tmps.size) : (a.put (some d) u).tmps.getD k undef = if k = d then u else a.tmps.getD k undef := by
  simp only [Act.put, Array.getD_eq_getD_getElem?, Array.getElem?_setIfInBounds]
  by_cases h : d = k
  · subst h; simp [hd]
  · have : ¬ k = d := fun e => h e.symm
    simp [h, this]

theorem turns_put (g : Gh) (a : Act) (w : World) (d : Nat) (u : Value) (hd : d < a.tmps.size) : Turns (kfS d) noB g a w g (a.put (some d) u) w where
  blk := fun _ _ _ => ⟨rfl, rfl⟩
  box := fun _ _ _ _ _ _ => ⟨rfl, rfl⟩
  hdr := by
    intro q x hq hx
    cases q with
    | bx b j => exact hx
    | sl k i j =>
      simp only [hdr] at hx ⊢
      rw [getD_put a d k u hd, if_neg]
      · exact hx
      · rintro rfl; simp [inSl, kfS] at hq
  ad := fun _ _ => rfl

theorem vput_sound {B : Bs} {g : Gh} {σ : St} {a : Act} {w : World} {d : Nat} {v : V} {u : Value} {K : St → Prop} (hv : vput σ d v K) (r : RS B g σ a w) (ht : RT g a w d v u) (hd : d < B.n) :
    ∃ σ', K σ' ∧ RS B g σ' (a.put (some d) u) w := by
  unfold vput at hv
  have hv := fcV_eq hv
  have hd' : d < a.tmps.size := by rw [r.2.2.1]; exact hd
  cases e : v.pls.any (inSl d) with
  | true => simp only [e, cond_true] at hv
  | false =>
    simp only [e, cond_false] at hv
    refine ⟨_, vforget_eq (K := fun σ' => K ⟨(d, v) :: σ'.s, σ'.b⟩) hv, ?_⟩
    have T := turns_put g a w d u hd'
    obtain ⟨h1, h2, h3, h4, h5⟩ := RS.kill0 (some d) r T r.1.1 (by simpa [Act.put] using r.2.1) (by simp [Act.put]) (fun k hk => by
      rw [getD_put a d k u hd', if_neg]; rintro rfl; exact hk rfl)
    refine ⟨h1, h2, h3, fun k => ?_, fun b cs => h5 b cs rfl⟩
    by_cases hk : k = d
    · subst hk
      have : St.get ⟨(k, v) :: (σ.kill (kfS k)).s, (σ.kill (kfS k)).b⟩ k = v := by simp [St.get, lk]
      rw [this, getD_put a k k u hd', if_pos rfl]
      refine RT.ofHdr (fun q hq x hx => T.hdr q x ?_ hx) ht
      simp only [List.any_eq_false] at e
      simpa [kfS] using e q hq
    · have : St.get ⟨(d, v) :: (σ.kill (kfS d)).s, (σ.kill (kfS d)).b⟩ k = (σ.kill (kfS d)).get k := by
        have hb : Nat.beq d k = false := by
          cases hb : Nat.beq d k with
          | false => rfl
          | true => exact absurd (Nat.eq_of_beq_eq_true hb).symm hk
        simp [St.get, lk, hb]
      rw [this]
      exact h4 k (by simpa using fun e => hk e.symm)
end Go.Proofs.YtfdmlccbfbiloaaGreatDoor.Vs
/- The calculus: what one operation does. -/
namespace Go.Proofs.YtfdmlccbfbiloaaGreatDoor.Vs
open Go
variable [Gl]
set_option linter.unusedSectionVars false

inductive TK where
  | int (k : IntKind) | bool | string | slice (e : Nat) | struct (fs : List (Nat × Nat)) | ptr (e : Nat) | other
  deriving Inhabited

structure TI where
  sz : Nat
  bytes : Nat
  k : TK
  zero : List Value
  deriving Inhabited

def TK.agg : TK → Bool
  | .struct _ => true
  | _ => false

def TK.isD : TK → TypeDesc → Prop
  | .int k, d => d = .int k
  | .bool, d => d = .bool
  | .string, d => d = .string
  | .slice e, d => d = .slice e
  | .struct fs, d => ∃ gs : Array Field, d = .struct gs ∧ gs.toList.map (fun f => (f.offset, f.type)) = fs
  | .ptr e, d => d = .pointer e
  | .other, d => (match d with | .struct _ | .array _ _ => False | _ => True)

/-- the row of a type in the table is what the program says of it -/
structure TIok (P : Program) (t : Nat) (i : TI) : Prop where
  info : ∃ inf z, P.info? t = some inf ∧ inf.size = i.sz ∧ inf.bytes = i.bytes ∧ inf.zero = some z ∧ z.cells.toList = i.zero
  one : i.zero.all Value.oneCell' = true
  len : i.zero.length = i.sz
  und : ∃ d, P.underlying t = some d ∧ i.k.isD d

def ThOk (P : Program) (Θ : Nat → Option TI) : Prop := ∀ t i, Θ t = some i → TIok P t i

/-! #### an operand -/
def V.al (q : Pl) : V → V
  | .own _ _ | .mu _ _ _ => .hd q
  | v => v
def alL (p : Nat → Pl) : Nat → List V → List V
  | _, [] => []
  | j, v :: r => v.al (p j) :: alL p (j + 1) r
/-- a slot's value, seen from elsewhere -/
def alG (k i : Nat) : V → V
  | .agg vs => .agg (alL (.sl k i) 0 vs)
  | .tup _ => .dead
  | v => v.al (.sl k i 0)
def alT (k : Nat) : Nat → List V → List V
  | _, [] => []
  | i, v :: r => alG k i v :: alT k (i + 1) r
def V.alias (k : Nat) : V → V
  | .agg vs => .agg (alL (.sl k 0) 0 vs)
  | .tup vs => .tup (alT k 0 vs)
  | v => v.al (.sl k 0 0)

def St.ev (σ : St) : Operand → V
  | .tmp k => (σ.get k).alias k
  | .const v => bif v.oneCell' then .val v else .dead
  | .func f => .val (.func (.func f) #[] #[])
  | .global _ => .dead

theorem OwP.slice {g : Gh} {w : World} {q : Pl} {s : Nat} {xs : List (List C)} {u : Value} (h : OwP g w q s xs u) : ∃ A cap, u = .slice A xs.length cap ∧ xs.length ≤ cap ∧ cap ≤ cap63 := by
  obtain ⟨fp, h, _⟩ := h
  simp only [Ow] at h
  rcases h with ⟨rfl, rfl, _⟩ | ⟨b, arr, e, cap, f, fr, rfl, h1, h2, _⟩
  · exact ⟨_, _, rfl, by simp, by simp⟩
  · exact ⟨_, _, rfl, h1, h2⟩

theorem RC.al {g : Gh} {a : Act} {w : World} {self : Pl} {v : V} {u : Value} (hh : hdr g a w self = some u) (r : RC g a w self v u) (self' : Pl) : RC g a w self' (v.al self) u := by
  cases v with
  | own s xs => obtain ⟨A, cap, h, _⟩ := OwP.slice r; exact ⟨hh, A, _, cap, h⟩
  | mu x s xs => obtain ⟨A, cap, h, _⟩ := OwP.slice r.2; exact ⟨hh, A, _, cap, h⟩
  | agg vs => exact r.elim
  | tup vs => exact r.elim
  | _ => exact r

theorem alL_get (p : Nat → Pl) : ∀ (vs : List V) (j i : Nat) (v : V), (alL p j vs)[i]? = some v → ∃ v0, vs[i]? = some v0 ∧ v = v0.al (p (j + i))
  | [], _, _, _, e => by simp [alL] at e
  | x :: r, j, i, v, e => by
    cases i with
    | zero => simp [alL] at e; exact ⟨x, rfl, by simpa using e.symm⟩
    | succ i =>
      obtain ⟨v0, h1, h2⟩ := alL_get p r (j + 1) i v (by simpa [alL] using e)
      exact ⟨v0, by simpa using h1, by rw [h2, show j + 1 + i = j + (i + 1) from by omega]⟩
theorem alL_len (p : Nat → Pl) : ∀ (vs : List V) (j : Nat), (alL p j vs).length = vs.length
  | [], _ => rfl
  | x :: r, j => by simp [alL, alL_len p r (j + 1)]

/-- a value that is no own one: what it is does not hang on where it stands -/
def V.free1 : V → Bool
  | .own _ _ | .mu _ _ _ | .agg _ | .tup _ => false
  | _ => true
theorem RC.at_ {g : Gh} {a : Act} {w : World} {q q' : Pl} {v : V} {u : Value} (h : v.free1 = true) (r : RC g a w q v u) : RC g a w q' v u := by
  cases v with
  | own s xs => cases h
  | mu x s xs => cases h
  | agg vs => cases h
  | tup vs => cases h
  | _ => exact r
theorem al_free (q : Pl) (v : V) (h : ∀ vs, v ≠ .agg vs) (h' : ∀ vs, v ≠ .tup vs) : (v.al q).free1 = true := by
  cases v <;> first | rfl | exact absurd rfl (h _) | exact absurd rfl (h' _)

theorem alT_get (k : Nat) : ∀ (vs : List V) (j i : Nat) (v : V), (alT k j vs)[i]? = some v → ∃ v0, vs[i]? = some v0 ∧ v = alG k (j + i) v0
  | [], _, _, _, e => by simp [alT] at e
  | x :: r, j, i, v, e => by
    cases i with
    | zero => simp [alT] at e; exact ⟨x, rfl, by simpa using e.symm⟩
    | succ i =>
      obtain ⟨v0, h1, h2⟩ := alT_get k r (j + 1) i v (by simpa [alT] using e)
      exact ⟨v0, by simpa using h1, by rw [h2, show j + 1 + i = j + (i + 1) from by omega]⟩
theorem alT_len (k : Nat) : ∀ (vs : List V) (j : Nat), (alT k j vs).length = vs.length
  | [], _ => rfl
  | x :: r, j => by simp [alT, alT_len k r (j + 1)]
/-- what stands in a slot of its own right, or an alias of it: a value of one slot k' -/
theorem RT.alias {g : Gh} {a : Act} {w : World} {k : Nat} {v : V} (r : RT g a w k v (a.tmps.getD k undef)) (k' : Nat) : RT g a w k' (v.alias k) (a.tmps.getD k undef) := by
  generalize hu : a.tmps.getD k undef = u at r
  cases v with
  | tup vs =>
    simp only [RT] at r
    obtain ⟨us, rfl, h1, h2⟩ := r
    simp only [V.alias, RT]
    refine ⟨us, rfl, by rw [h1, alT_len], fun i v x hv hx => ?_⟩
    obtain ⟨v0, hv0, rfl⟩ := alT_get k vs 0 i v hv
    have h3 := h2 i v0 x hv0 hx
    rw [Nat.zero_add]
    have single : ∀ A len cap, x = .slice A len cap → hdr g a w (.sl k i 0) = some x := by
      intro A len cap e
      simp only [hdr, hu, pick2, hx, e]
    cases v0 with
    | agg vs0 =>
      simp only [RG] at h3
      obtain ⟨cs, rfl, k1, k2⟩ := h3
      simp only [alG, RG]
      refine ⟨cs, rfl, by rw [k1, alL_len], fun j v y hv hy => ?_⟩
      obtain ⟨v1, hv1, rfl⟩ := alL_get _ vs0 0 j v hv
      rw [Nat.zero_add]
      exact RC.al (self := .sl k i j) (by simp only [hdr, hu, pick2, hx]; exact hy) (k2 j v1 y hv1 hy) _
    | tup vs0 => simp only [RG, RC] at h3
    | own s xs =>
      simp only [RG, RC] at h3
      obtain ⟨A, cap, e, _⟩ := OwP.slice h3
      exact ⟨single _ _ _ e, A, _, cap, e⟩
    | mu z s xs =>
      simp only [RG, RC] at h3
      obtain ⟨A, cap, e, _⟩ := OwP.slice h3.2
      exact ⟨single _ _ _ e, A, _, cap, e⟩
    | _ =>
      simp only [RG] at h3
      simp only [alG, V.al, RG]
      exact h3
  | agg vs =>
    simp only [RT, RG] at r
    obtain ⟨us, rfl, h1, h2⟩ := r
    simp only [V.alias, RT, RG]
    refine ⟨us, rfl, by rw [h1, alL_len], fun j v x hv hx => ?_⟩
    obtain ⟨v0, hv0, rfl⟩ := alL_get _ vs 0 j v hv
    rw [Nat.zero_add]
    exact RC.al (self := .sl k 0 j) (by simp only [hdr, hu, pick2]; exact hx) (h2 j v0 x hv0 hx) _
  | own s xs =>
    simp only [RT, RG, RC] at r
    obtain ⟨A, cap, h, _⟩ := OwP.slice r
    exact ⟨by simp only [hdr, hu, h, pick2], A, _, cap, h⟩
  | mu x s xs =>
    simp only [RT, RG, RC] at r
    obtain ⟨A, cap, h, _⟩ := OwP.slice r.2
    exact ⟨by simp only [hdr, hu, h, pick2], A, _, cap, h⟩
  | _ =>
    simp only [RT, RG] at r
    simp only [V.alias, V.al, RT, RG]
    exact r

theorem RS.ev {B : Bs} {g : Gh} {σ : St} {a : Act} {w : World} (r : RS B g σ a w) (x : Operand) (k' : Nat) : RT g a w k' (σ.ev x) (a.eval x) := by
  cases x with
  | tmp k => exact RT.alias (r.2.2.2.1 k) k'
  | const v =>
    simp only [St.ev, Act.eval]
    cases h : v.oneCell' with
    | true => simp [RT, RG, RC, h]
    | false => simp [RT, RG, RC]
  | func f => simp [St.ev, Act.eval, RT, RG, RC, Value.oneCell']
  | global g => simp [St.ev, RT, RG, RC]

/-- an operation has been carried out: its value v goes to slot d -/
def Done (P : Program) (B : Bs) (o : Oper) (a : Act) (w : World) (d : Nat) (K : V → St → Prop) : Prop :=
  ∃ u w' g' σ' v, (execOp a.eval o).run P w = .ok (.value u) w' ∧ K v σ' ∧ RS B g' σ' a w' ∧ RT g' a w' d v u

/-- worlds that hold what w holds -/
def Cw (w w' : World) : Prop := ∀ b, b < w.heap.size → w'.heap[b]? = w.heap[b]?
theorem Cw.refl (w : World) : Cw w w := fun _ _ => rfl
/-- an operation that only reads: one value, in every such world -/
def DoneQ (P : Program) (g : Gh) (σ : St) (o : Oper) (a : Act) (w : World) (d : Nat) (K : V → St → Prop) : Prop :=
  ∃ u v, (∀ w', Cw w w' → (execOp a.eval o).run P w' = .ok (.value u) w') ∧ K v σ ∧ RT g a w d v u
theorem DoneQ.done {P : Program} {B : Bs} {g : Gh} {σ : St} {a : Act} {w : World} {o : Oper} {d : Nat} {K : V → St → Prop} (h : DoneQ P g σ o a w d K) (r : RS B g σ a w) : Done P B o a w d K :=
  let ⟨u, v, h1, h2, h3⟩ := h
  ⟨u, w, g, σ, v, h1 w (Cw.refl w), h2, r, h3⟩

section ops
variable {P : Program} {B : Bs} {g : Gh} {σ : St} {a : Act} {w : World} {o : Oper} {d : Nat} {K : V → St → Prop}

theorem RT.single {v : V} {u : Value} (h : ∀ vs, v ≠ .agg vs) (h' : ∀ vs, v ≠ .tup vs) {k : Nat} : RT g a w k v u ↔ RC g a w (.sl k 0 0) v u := by
  cases v <;> first | exact Iff.rfl | exact absurd rfl (h _) | exact absurd rfl (h' _)
theorem RT.val {k : Nat} {x u : Value} : RT g a w k (.val x) u ↔ u = x ∧ x.oneCell' = true := Iff.rfl

/-! #### numbers, bools, strings -/
def ibits (op : BinOp) (k : IntKind) (x y : Int) : Int :=
  let a := BitVec.ofInt k.bits x
  let b := BitVec.ofInt k.bits y
  match op with
  | .and => k.wrap (a &&& b).toNat
  | .or => k.wrap (a ||| b).toNat
  | .xor => k.wrap (a ^^^ b).toNat
  | _ => k.wrap (a &&& ~~~b).toNat
def isLit : Value → Bool
  | .nilIface | .nilFunc => true
  | _ => false
/-- a fork -/
def brm (t : Bool) (A N : Prop) : Prop := match t with
  | true => A
  | false => N
theorem brm_intro {t : Bool} {A N : Prop} (h1 : t = true → A) (h2 : t = false → N) : brm t A N := by
  cases t with
  | true => exact h1 rfl
  | false => exact h2 rfl
theorem brm_elim {t : Bool} {A N : Prop} (h : brm t A N) : (t = true ∧ A) ∨ (t = false ∧ N) := by
  cases t with
  | true => exact .inl ⟨rfl, h⟩
  | false => exact .inr ⟨rfl, h⟩
/-- a thing that has to be shown -/
@[irreducible] def vreq (p : Prop) (K : Prop) : Prop := p ∧ K
theorem vreq_intro {p K : Prop} (h : p) (k : K) : vreq p K := by unfold vreq; exact ⟨h, k⟩
theorem vreq_elim {p K : Prop} (h : vreq p K) : p ∧ K := by unfold vreq at h; exact h

def vint (op : BinOp) (k : IntKind) (x y : Int) (K : Value → Prop) : Prop :=
  match op with
  | .add => K (.int k (k.wrap (x + y)))
  | .sub => K (.int k (k.wrap (x - y)))
  | .mul => K (.int k (k.wrap (x * y)))
  | .quo => vreq (y ≠ 0) (K (.int k (k.wrap (x.tdiv y))))
  | .rem => vreq (y ≠ 0) (K (.int k (x.tmod y)))
  | .and => K (.int k (ibits .and k x y))
  | .or => K (.int k (ibits .or k x y))
  | .xor => K (.int k (ibits .xor k x y))
  | .andNot => K (.int k (ibits .andNot k x y))
  | .eql => K (.bool (x == y))
  | .neq => K (.bool (x != y))
  | .lss => K (.bool (decide (x < y)))
  | .leq => K (.bool (decide (x ≤ y)))
  | .gtr => K (.bool (decide (x > y)))
  | .geq => K (.bool (decide (x ≥ y)))
  | _ => False
def vshift (op : BinOp) (k : IntKind) (x y : Int) (K : Value → Prop) : Prop :=
  match op with
  | .shl => vreq (0 ≤ y) (K (.int k (k.wrap (x * 2 ^ (min y.toNat k.bits)))))
  | .shr => vreq (0 ≤ y) (K (.int k (x.fdiv (2 ^ (min y.toNat k.bits)))))
  | _ => False
/-- a text's bytes; a text of bytes -/
def sb (s : ByteArray) : List UInt8 := s.data.toList
def bs (l : List UInt8) : ByteArray := ⟨⟨l⟩⟩
theorem bs_sb (s : ByteArray) : bs (sb s) = s := rfl
theorem sb_bs (l : List UInt8) : sb (bs l) = l := rfl
theorem size_sb (s : ByteArray) : s.size = (sb s).length := rfl
def vstr (op : BinOp) (x y : ByteArray) (K : Value → Prop) : Prop :=
  match op with
  | .add => vreq ((sb x).length + (sb y).length ≤ cap63) (K (.string (bs (sb x ++ sb y))))
  | .eql => K (.bool (sb x == sb y))
  | .neq => K (.bool (!(sb x == sb y)))
  | .lss => K (.bool (Op.bytesLess (sb x) (sb y)))
  | .leq => K (.bool (Op.bytesLess (sb x) (sb y) || sb x == sb y))
  | .gtr => K (.bool (!(Op.bytesLess (sb x) (sb y) || sb x == sb y)))
  | .geq => K (.bool (!(Op.bytesLess (sb x) (sb y))))
  | _ => False
def isShift : BinOp → Bool
  | .shl | .shr => true
  | _ => false
def keq (a b : IntKind) : Bool := decide (a = b)
def tk (Θ : Nat → Option TI) (t : Nat) : TK := match Θ t with | some i => i.k | none => .other
theorem tk_some {Θ : Nat → Option TI} {P : Program} (hΘ : ThOk P Θ) (t : Nat) : tk Θ t = .other ∨ ∃ d, P.underlying t = some d ∧ (tk Θ t).isD d := by
  unfold tk
  cases e : Θ t with
  | none => exact .inl rfl
  | some i => exact .inr (hΘ t i e).und
def TK.isBool : TK → Bool
  | .bool => true
  | _ => false
def vbinV (Θ : Nat → Option TI) (t : Nat) (op : BinOp) (x y : Value) (K : Value → Prop) : Prop :=
  match x, y with
  | .int k a, .int k' b => bif isShift op then vshift op k a b K else bif keq k k' then vint op k a b K else False
  | .string a, .string b => vstr op a b K
  | .bool a, .bool b => bif (tk Θ t).isBool then (match op with
    | .eql => K (.bool (a == b))
    | .neq => K (.bool (!(a == b)))
    | _ => False) else False
  | _, _ => False
def vbin (Θ : Nat → Option TI) (t : Nat) (op : BinOp) (σ : St) (x y : Operand) (K : V → St → Prop) : Prop :=
  match σ.ev x, σ.ev y with
  | .val x, .val y => vbinV Θ t op x y fun z => K (.val z) σ
  | _, _ => False

def eqg (op : BinOp) (t : TypeId) (xo yo : Operand) (x y : Value) : Sem Value := do eqGuard op t xo yo x y; binOp op t x y
theorem eqg_int {op : BinOp} {t : TypeId} {xo yo : Operand} {k k' : IntKind} {x y : Int} : (eqg op t xo yo (.int k x) (.int k' y)).run P w = (binOp op t (.int k x) (.int k' y)).run P w := by
  cases op <;> simp [eqg, eqGuard]
theorem eqg_str {op : BinOp} {t : TypeId} {xo yo : Operand} {x y : ByteArray} : (eqg op t xo yo (.string x) (.string y)).run P w = (binOp op t (.string x) (.string y)).run P w := by
  cases op <;> simp [eqg, eqGuard]
theorem eqg_bool {op : BinOp} {t : TypeId} {xo yo : Operand} {x y : Bool} : (eqg op t xo yo (.bool x) (.bool y)).run P w = (binOp op t (.bool x) (.bool y)).run P w := by
  cases op <;> simp [eqg, eqGuard]
theorem vint_sound {op : BinOp} {k : IntKind} {x y : Int} {K : Value → Prop} (t : TypeId) (hs : isShift op = false) (h : vint op k x y K) :
    ∃ z, (∀ w, (binOp op t (.int k x) (.int k y)).run P w = .ok z w) ∧ K z ∧ z.oneCell' = true := by
  have e : ∀ z : Sem Value, (if k ≠ k then stuck "BinOp: operands of different kinds" else z) = z := fun z => by simp
  cases op
  case quo =>
    obtain ⟨h1, h2⟩ := vreq_elim h
    exact ⟨_, fun w => by simp [binOp, Op.intDiv, h1], h2, rfl⟩
  case rem =>
    obtain ⟨h1, h2⟩ := vreq_elim h
    exact ⟨_, fun w => by simp [binOp, Op.intDiv, h1], h2, rfl⟩
  case shl => cases hs
  case shr => cases hs
  all_goals exact ⟨_, fun w => by simp only [binOp, e]; rfl, h, rfl⟩
theorem vshift_sound {op : BinOp} {k k' : IntKind} {x y : Int} {K : Value → Prop} (t : TypeId) (h : vshift op k x y K) :
    ∃ z, (∀ w, (binOp op t (.int k x) (.int k' y)).run P w = .ok z w) ∧ K z ∧ z.oneCell' = true := by
  cases op <;> simp only [vshift] at h
  case shl =>
    obtain ⟨h1, h2⟩ := vreq_elim h
    have h1' : ¬ y < 0 := by omega
    exact ⟨_, fun w => by simp [binOp, Op.shift, h1'], h2, rfl⟩
  case shr =>
    obtain ⟨h1, h2⟩ := vreq_elim h
    have h1' : ¬ y < 0 := by omega
    exact ⟨_, fun w => by simp [binOp, Op.shift, h1'], h2, rfl⟩
theorem vstr_sound {op : BinOp} {x y : ByteArray} {K : Value → Prop} (t : TypeId) (h : vstr op x y K) :
    ∃ z, (∀ w, (binOp op t (.string x) (.string y)).run P w = .ok z w) ∧ K z ∧ z.oneCell' = true := by
  cases op <;> simp only [vstr] at h
  case add =>
    obtain ⟨h1, h2⟩ := vreq_elim h
    have h1' : ¬ (((x.size + y.size : Nat) : Int) > IntKind.i64.max) := by
      have : IntKind.i64.max = 9223372036854775807 := by decide
      rw [this, size_sb, size_sb]; unfold cap63 at h1; omega
    refine ⟨_, fun w => ?_, h2, rfl⟩
    simp only [binOp, Op.stringOp, if_neg h1']
    have : x ++ y = bs (sb x ++ sb y) := by
      apply ByteArray.ext
      simp [bs, sb]
    rw [this]; rfl
  all_goals exact ⟨_, fun w => by simp only [binOp, Op.stringOp, ByteArray.toList_eq]; rfl, h, rfl⟩
theorem vbool_sound {Θ : Nat → Option TI} (hΘ : ThOk P Θ) {op : BinOp} {x y : Bool} {K : Value → Prop} (t : TypeId) (h : vbinV Θ t op (.bool x) (.bool y) K) :
    ∃ z, (∀ w, (binOp op t (.bool x) (.bool y)).run P w = .ok z w) ∧ K z ∧ z.oneCell' = true := by
  simp only [vbinV] at h
  cases hb : (tk Θ t).isBool with
  | false => simp only [hb, cond_false] at h
  | true =>
    simp only [hb, cond_true] at h
    have hu : P.underlying t = some .bool := by
      rcases tk_some hΘ t with h2 | ⟨d, h1, h2⟩
      · rw [h2] at hb; cases hb
      · revert h2 hb
        cases tk Θ t <;> intro hb h2 <;> first | (cases hb; done) | (rw [h1, h2])
    have he : ∀ w, (Op.equal t (.bool x) (.bool y)).run P w = .ok (x == y) w := fun w => run_equalIn_bool' w 9999 t x y hu
    cases op <;> simp only at h
    case eql => exact ⟨.bool (x == y), fun w => by simp [binOp, he], h, rfl⟩
    case neq => exact ⟨.bool (!(x == y)), fun w => by simp [binOp, he], h, rfl⟩
theorem vbinV_sound {Θ : Nat → Option TI} (hΘ : ThOk P Θ) {op : BinOp} {x y : Value} {K : Value → Prop} (t : TypeId) (xo yo : Operand) (h : vbinV Θ t op x y K) :
    ∃ z, (∀ w, (eqg op t xo yo x y).run P w = .ok z w) ∧ K z ∧ z.oneCell' = true := by
  cases x <;> cases y
  case int.int k x k' y =>
    simp only [eqg_int]
    simp only [vbinV] at h
    cases hs : isShift op with
    | true => simp only [hs, cond_true] at h; exact vshift_sound t h
    | false =>
      simp only [hs, cond_false] at h
      cases hk : keq k k' with
      | false => simp only [hk, cond_false] at h
      | true =>
        simp only [hk, cond_true] at h
        have : k = k' := by simpa [keq] using hk
        subst this
        exact vint_sound t hs h
  case string.string x y => simp only [eqg_str]; exact vstr_sound t h
  case bool.bool x y => simp only [eqg_bool]; exact vbool_sound hΘ t h
  all_goals exact absurd h (by simp [vbinV])
theorem exec_bin {op : BinOp} {t u : TypeId} {x y : Operand} (ho : o.op = .binOp op t x y u) {z : Value} (h : (eqg op t x y (a.eval x) (a.eval y)).run P w = .ok z w) : (execOp a.eval o).run P w = .ok (.value z) w := by
  have : execOp a.eval o = (do let q ← eqg op t x y (a.eval x) (a.eval y); pure (.value q)) := by
    simp only [execOp, ho, eqg]
  rw [this]; simp [h]
theorem vbin_sound {Θ : Nat → Option TI} (hΘ : ThOk P Θ) {op : BinOp} {t u : TypeId} {x y : Operand} (ho : o.op = .binOp op t x y u) (h : vbin Θ t op σ x y K) (r : RS B g σ a w) : DoneQ P g σ o a w d K := by
  unfold vbin at h
  have hx := r.ev x d
  have hy := r.ev y d
  split at h
  · rename_i vx vy ex ey
    rw [ex] at hx; rw [ey] at hy
    rw [RT.val] at hx hy
    obtain ⟨z, h1, h2, h3⟩ := vbinV_sound hΘ t x y h
    exact ⟨z, .val z, fun w' _ => exec_bin ho (by rw [hx.1, hy.1]; exact h1 w'), h2, rfl, h3⟩
  · exact h.elim
end ops
end Go.Proofs.YtfdmlccbfbiloaaGreatDoor.Vs
/- The calculus: slots, lengths, conversions, reading. -/
namespace Go.Proofs.YtfdmlccbfbiloaaGreatDoor.Vs
open Go
variable [Gl]
set_option linter.unusedSectionVars false
section ops
variable {P : Program} {B : Bs} {g : Gh} {σ : St} {a : Act} {w : World} {o : Oper} {d : Nat} {K : V → St → Prop} {Θ : Nat → Option TI}

theorem Done.same {v : V} {u : Value} (h : ∀ w', Cw w w' → (execOp a.eval o).run P w' = .ok (.value u) w') (k : K v σ) (_ : RS B g σ a w) (ht : RT g a w d v u) : DoneQ P g σ o a w d K :=
  ⟨u, v, h, k, ht⟩
theorem Done.val {x : Value} (h : ∀ w', Cw w w' → (execOp a.eval o).run P w' = .ok (.value x) w') (k : K (.val x) σ) (r : RS B g σ a w) (h1 : x.oneCell' = true) : DoneQ P g σ o a w d K :=
  Done.same h k r ⟨rfl, h1⟩

def vmove (σ : St) (x : Operand) (K : V → St → Prop) : Prop := K (σ.ev x) σ
theorem vmove_sound {x : Operand} (ho : o.op = .move x ∨ o.op = .assign x) (h : vmove σ x K) (r : RS B g σ a w) : DoneQ P g σ o a w d K :=
  Done.same (fun w _ => by rcases ho with ho | ho <;> simp [execOp, ho]) h r (r.ev x d)

def vpick (σ : St) (c x y : Operand) (K : V → St → Prop) : Prop :=
  match σ.ev c with
  | .val (.bool t) => brm t (K (σ.ev x) σ) (K (σ.ev y) σ)
  | _ => False
theorem vpick_sound {c x y : Operand} (ho : o.op = .pick c x y) (h : vpick σ c x y K) (r : RS B g σ a w) : DoneQ P g σ o a w d K := by
  unfold vpick at h
  have hc := r.ev c d
  split at h
  · rename_i t e
    rw [e, RT.val] at hc
    rcases brm_elim h with ⟨rfl, h⟩ | ⟨rfl, h⟩
    · exact Done.same (fun w _ => by simp [execOp, ho, hc.1, asBool]) h r (r.ev x d)
    · exact Done.same (fun w _ => by simp [execOp, ho, hc.1, asBool]) h r (r.ev y d)
  · exact h.elim

def vun (op : UnOp) (σ : St) (x : Operand) (K : V → St → Prop) : Prop :=
  match op, σ.ev x with
  | .not, .val (.bool b) => K (.val (.bool (!b))) σ
  | .neg, .val (.int k n) => K (.val (.int k (k.wrap (0 - n)))) σ
  | _, _ => False
theorem vun_sound {op : UnOp} {t : TypeId} {x : Operand} (ho : o.op = .unOp op t x) (h : vun op σ x K) (r : RS B g σ a w) : DoneQ P g σ o a w d K := by
  unfold vun at h
  have hx := r.ev x d
  split at h
  · rename_i b e
    rw [e, RT.val] at hx
    exact Done.val (fun w _ => by simp [execOp, ho, hx.1, Op.unary]) h r rfl
  · rename_i k n e
    rw [e, RT.val] at hx
    exact Done.val (fun w _ => by simp [execOp, ho, hx.1, Op.unary, Op.intArith]) h r rfl
  · exact h.elim

/-! #### a slice as a list -/
def V.own? : V → Option (Nat × List (List C))
  | .own s xs => some (s, xs)
  | .mu _ s xs => some (s, xs)
  | _ => none
def V.comp : V → Nat → Nat → Option V
  | .tup vs, i, j => (match vs[i]? with
    | some (.agg ws) => ws[j]?
    | some v => (match j with | 0 => some v | _ => none)
    | none => none)
  | .agg vs, 0, j => vs[j]?
  | .agg _, _, _ => none
  | v, 0, 0 => some v
  | _, _, _ => none
/-- the own list at a place -/
def St.plc (σ : St) : Pl → Option (Nat × List (List C))
  | .sl k i j => match (σ.get k).comp i j with
    | some v => v.own?
    | none => none
  | .bx b j => match σ.box b with
    | some cs => (match cs[j]? with | some v => v.own? | none => none)
    | none => none
theorem RC.own? {q : Pl} {v : V} {u : Value} {s : Nat} {xs : List (List C)} (r : RC g a w q v u) (h : v.own? = some (s, xs)) : OwP g w q s xs u := by
  cases v <;> simp only [V.own?, Option.some.injEq, Prod.mk.injEq, reduceCtorEq] at h
  · obtain ⟨rfl, rfl⟩ := h; exact r
  · obtain ⟨rfl, rfl⟩ := h; exact r.2
theorem RT.comp {k i j : Nat} {v v' : V} {u : Value} (hu : a.tmps.getD k undef = u) (r : RT g a w k v u) (h : v.comp i j = some v') :
    ∃ x, (v'.own? ≠ none → hdr g a w (.sl k i j) = some x) ∧ RC g a w (.sl k i j) v' x := by
  cases v with
  | tup vs =>
    simp only [V.comp] at h
    simp only [RT] at r
    obtain ⟨us, rfl, h1, h2⟩ := r
    have hex : ∀ v0, vs[i]? = some v0 → ∃ x, us[i]? = some x := by
      intro v0 hv0
      have := (List.getElem?_eq_some_iff.1 hv0).1
      exact ⟨us[i], Array.getElem?_eq_getElem (by omega)⟩
    split at h
    · rename_i ws e
      obtain ⟨x, hx⟩ := hex _ e
      have h3 := h2 i _ x e hx
      simp only [RG] at h3
      obtain ⟨cs, rfl, k1, k2⟩ := h3
      have : j < cs.size := by rw [k1]; exact (List.getElem?_eq_some_iff.1 h).1
      have hy : cs[j]? = some cs[j] := Array.getElem?_eq_getElem this
      exact ⟨cs[j], fun _ => by simp only [hdr, hu, pick2, hx]; exact hy, k2 j v' _ h hy⟩
    · rename_i v0 hna e
      obtain ⟨x, hx⟩ := hex _ e
      have h3 := h2 i _ x e hx
      split at h
      · simp only [Option.some.injEq] at h
        subst h
        have h3 : RC g a w (.sl k i 0) v0 x := by
          cases v0 <;> first | exact h3 | exact absurd rfl (hna _)
        refine ⟨x, fun hn => ?_, h3⟩
        have : ∃ s xs, v0.own? = some (s, xs) := by
          cases ho : v0.own? with
          | none => exact absurd ho hn
          | some y => exact ⟨y.1, y.2, rfl⟩
        obtain ⟨s, xs, ho⟩ := this
        obtain ⟨A, cap, e2, _⟩ := OwP.slice (RC.own? h3 ho)
        simp only [hdr, hu, pick2, hx, e2]
      · cases h
    · cases h
  | agg vs =>
    cases i with
    | succ i => simp [V.comp] at h
    | zero =>
      simp only [V.comp] at h
      simp only [RT, RG] at r
      obtain ⟨us, rfl, h1, h2⟩ := r
      have : j < vs.length := by
        rcases Nat.lt_or_ge j vs.length with h' | h'
        · exact h'
        · rw [List.getElem?_eq_none h'] at h; cases h
      rw [← h1] at this
      exact ⟨us[j], fun _ => by simp [hdr, hu, pick2, this], h2 j _ _ h (by simp [this])⟩
  | _ =>
    cases i with
    | succ i => simp [V.comp] at h
    | zero =>
      cases j with
      | succ j => simp [V.comp] at h
      | zero =>
        simp only [V.comp, Option.some.injEq] at h
        subst h
        simp only [RT, RG] at r
        refine ⟨u, fun hn => ?_, r⟩
        first
        | (exact absurd rfl hn)
        | (obtain ⟨A, cap, e, _⟩ := OwP.slice (RC.own? r rfl); simp only [hdr, hu, e, pick2])
/-- what a place holds is an own list -/
theorem RS.plc {q : Pl} {s : Nat} {xs : List (List C)} (r : RS B g σ a w) (h : σ.plc q = some (s, xs)) : ∃ u, hdr g a w q = some u ∧ OwP g w q s xs u := by
  cases q with
  | sl k i j =>
    have hk := r.2.2.2.1 k
    unfold St.plc at h
    cases hc : (σ.get k).comp i j with
    | none => simp [hc] at h
    | some v =>
      simp only [hc] at h
      obtain ⟨x, h1, h2⟩ := RT.comp rfl hk hc
      exact ⟨x, h1 (by rw [h]; simp), RC.own? h2 h⟩
  | bx b j =>
    unfold St.plc at h
    cases hb : σ.box b with
    | none => simp [hb] at h
    | some cs =>
      simp only [hb] at h
      obtain ⟨h1, arr, e, fr, h2, h3⟩ := r.2.2.2.2 b cs hb
      cases ev : cs[j]? with
      | none => simp [ev] at h
      | some v =>
        simp only [ev] at h
        obtain ⟨_, u, h4, h5, h6⟩ := h3 j _ ev
        exact ⟨u, by simp only [hdr, h1, if_true, World.cell?, h2]; simpa using h4, RC.own? h6 h⟩

/-- how one may read what an own place holds -/
theorem OwP.rd {q : Pl} {s : Nat} {xs : List (List C)} {u : Value} (h : OwP g w q s xs u) : Rd (Sf g.ow (some q)) w (.sl true s xs) u := by
  obtain ⟨fp, h1, h2, h3⟩ := h
  exact Ow.rd (S := Sf g.ow (some q)) (fun b hb => by simpa [Sf] using hb) _ _ fp (fun b hb => by simpa [Sf] using h3 b hb) h1

/-- a slice's value as a list: whose it is, is it marked own, cells an element, the elements -/
def St.lst (σ : St) (v : V) : Option (Option Pl × Bool × Nat × List (List C)) :=
  match v with
  | .val (.slice none 0 0) => some (none, false, 0, [])
  | .rd o (.sl k s xs) => some (o, k, s, xs)
  | .ne q _ _ _ (.sl k s xs) => some (some q, k, s, xs)
  | .hd q => match σ.plc q with | some (s, xs) => some (some q, true, s, xs) | none => none
  | .pre q n => match σ.plc q with | some (s, xs) => some (some q, true, s, xs.take n) | none => none
  | _ => none
theorem RS.lst {v : V} {u : Value} {q : Pl} {o : Option Pl} {k : Bool} {s : Nat} {xs : List (List C)} (r : RS B g σ a w) (hv : RC g a w q v u) (h : σ.lst v = some (o, k, s, xs)) :
    Rd (Sf g.ow o) w (.sl k s xs) u := by
  unfold St.lst at h
  split at h
  · simp only [Option.some.injEq, Prod.mk.injEq] at h
    obtain ⟨rfl, rfl, rfl, rfl⟩ := h
    simp only [RC] at hv
    rw [hv.1]
    simp only [Rd]
    exact ⟨none, 0, rfl, by simp, by simp, .inl rfl⟩
  · simp only [Option.some.injEq, Prod.mk.injEq] at h
    obtain ⟨rfl, rfl, rfl, rfl⟩ := h
    exact hv
  · simp only [Option.some.injEq, Prod.mk.injEq] at h
    obtain ⟨rfl, rfl, rfl, rfl⟩ := h
    exact hv.1
  · rename_i q'
    split at h
    · rename_i s' xs' e
      simp only [Option.some.injEq, Prod.mk.injEq] at h
      obtain ⟨rfl, rfl, rfl, rfl⟩ := h
      obtain ⟨u', h1, h2⟩ := r.plc e
      simp only [RC] at hv
      rw [h1] at hv
      have := hv.1
      simp only [Option.some.injEq] at this
      subst this
      exact h2.rd
    · cases h
  · rename_i q' n
    split at h
    · rename_i s' xs' e
      simp only [Option.some.injEq, Prod.mk.injEq] at h
      obtain ⟨rfl, rfl, rfl, rfl⟩ := h
      obtain ⟨u', h1, h2⟩ := r.plc e
      simp only [RC] at hv
      obtain ⟨A, len, cap, h3, h4, rfl⟩ := hv
      rw [h1] at h3
      simp only [Option.some.injEq] at h3
      subst h3
      have := h2.rd
      simp only [Rd, Value.slice.injEq] at this ⊢
      obtain ⟨A', cap', ⟨rfl, rfl, rfl⟩, h5, h6, h7⟩ := this
      have hl : (xs'.take n).length = n := by rw [List.length_take]; omega
      refine ⟨A, cap, by rw [hl]; simp, by omega, h6, ?_⟩
      by_cases hn : n = 0
      · left; omega
      · right
        rcases h7 with h7 | ⟨ad, arr, e', fr, g1, g2, g3, g4, g5⟩
        · omega
        · exact ⟨ad, arr, e', fr, g1, g2, g3, g4, g5.take n⟩
    · cases h
  · cases h
theorem Rd.slice {S : Bool → Nat → Prop} {k : Bool} {s : Nat} {xs : List (List C)} {u : Value} (h : Rd S w (.sl k s xs) u) : ∃ A cap, u = .slice A xs.length cap ∧ xs.length ≤ cap ∧ cap ≤ cap63 := by
  simp only [Rd] at h
  obtain ⟨A, cap, h1, h2, h3, _⟩ := h
  exact ⟨A, cap, h1, h2, h3⟩

/-! #### len -/
def TK.isStr : TK → Bool
  | .string => true
  | _ => false
def TK.isSl : TK → Bool
  | .slice _ => true
  | _ => false
def TK.el : TK → Nat
  | .slice e => e
  | _ => 0
theorem isStr_und (hΘ : ThOk P Θ) {t : Nat} (h : (tk Θ t).isStr = true) : P.underlying t = some .string := by
  rcases tk_some hΘ t with h2 | ⟨d, h1, h2⟩
  · rw [h2] at h; cases h
  · revert h2 h
    cases tk Θ t <;> intro hb h2 <;> first | (cases hb; done) | (rw [h1, h2])
theorem isSl_und (hΘ : ThOk P Θ) {t : Nat} (h : (tk Θ t).isSl = true) : P.underlying t = some (.slice (tk Θ t).el) := by
  rcases tk_some hΘ t with h2 | ⟨d, h1, h2⟩
  · rw [h2] at h; cases h
  · revert h2 h
    cases tk Θ t <;> intro hb h2 <;> first | (cases hb; done) | (rw [h1, h2]; rfl)

def vlen (Θ : Nat → Option TI) (t : Nat) (σ : St) (x : Operand) (K : V → St → Prop) : Prop :=
  match σ.ev x with
  | .val (.string s) => bif (tk Θ t).isStr then K (.val (.int .i64 (sb s).length)) σ else False
  | v => bif (tk Θ t).isSl then (match σ.lst v with
    | some (_, _, _, xs) => K (.val (.int .i64 xs.length)) σ
    | none => False) else False
theorem RT.rc_of_lst {v : V} {u : Value} {x} (h : σ.lst v = some x) (ht : RT g a w d v u) : RC g a w (.sl d 0 0) v u := by
  cases v <;> first | exact ht | (simp [St.lst] at h)
theorem vlen_sound (hΘ : ThOk P Θ) {t : Nat} {x : Operand} (ho : o.op = .call { callee := .builtin .len, args := #[x], argTypes := #[t] }) (h : vlen Θ t σ x K) (r : RS B g σ a w) : DoneQ P g σ o a w d K := by
  unfold vlen at h
  have hx := r.ev x d
  split at h
  · rename_i s e
    rw [e, RT.val] at hx
    cases hb : (tk Θ t).isStr with
    | false => simp only [hb, cond_false] at h
    | true =>
      simp only [hb, cond_true] at h
      have hu := isStr_und hΘ hb
      refine Done.val (x := .int .i64 (sb s).length) (fun w _ => ?_) h r rfl
      rw [← size_sb]
      simp [execOp, ho, resolve, invoke, builtin, Builtin.len_, underlying, hu, hx.1, goInt]
  · rename_i v e
    cases hb : (tk Θ t).isSl with
    | false => simp only [hb, cond_false] at h
    | true =>
      simp only [hb, cond_true] at h
      have hu := isSl_und hΘ hb
      split at h
      · rename_i oo k s xs hl
        obtain ⟨A, cap, h1, _⟩ := (r.lst (RT.rc_of_lst hl hx) hl).slice
        refine Done.val (x := .int .i64 xs.length) (fun w _ => ?_) h r rfl
        simp [execOp, ho, resolve, invoke, builtin, Builtin.len_, underlying, hu, h1, goInt]
      · exact h.elim
end ops
end Go.Proofs.YtfdmlccbfbiloaaGreatDoor.Vs
/- The calculus: addresses, loads, texts' bytes, slices of slices, conversions. -/
namespace Go.Proofs.YtfdmlccbfbiloaaGreatDoor.Vs
open Go
variable [Gl]
set_option linter.unusedSectionVars false
section ops
variable {P : Program} {B : Bs} {g : Gh} {σ : St} {a : Act} {w : World} {o : Oper} {d : Nat} {K : V → St → Prop} {Θ : Nat → Option TI}

/-! #### what has to be told by hand: an index, an element, a range -/
@[irreducible] def vix (n : Int) (len : Nat) (K : Nat → Prop) : Prop := ∃ i : Nat, n = i ∧ i < len ∧ K i
theorem vix_intro {n : Int} {len : Nat} {K : Nat → Prop} (i : Nat) (h1 : n = i) (h2 : i < len) (k : K i) : vix n len K := by unfold vix; exact ⟨i, h1, h2, k⟩
theorem vix_elim {n : Int} {len : Nat} {K : Nat → Prop} (h : vix n len K) : ∃ i : Nat, n = i ∧ i < len ∧ K i := by unfold vix at h; exact h
@[irreducible] def vat (xs : List (List C)) (n : Int) (K : List C → Prop) : Prop := ∃ (i : Nat) (c : List C), n = i ∧ xs[i]? = some c ∧ K c
theorem vat_intro {xs : List (List C)} {n : Int} {K : List C → Prop} (i : Nat) (c : List C) (h1 : n = i) (h2 : xs[i]? = some c) (k : K c) : vat xs n K := by unfold vat; exact ⟨i, c, h1, h2, k⟩
theorem vat_elim {xs : List (List C)} {n : Int} {K : List C → Prop} (h : vat xs n K) : ∃ (i : Nat) (c : List C), n = i ∧ xs[i]? = some c ∧ K c := by unfold vat at h; exact h
@[irreducible] def vrange (lo hi : Int) (len : Nat) (K : Nat → Nat → Prop) : Prop := ∃ l h : Nat, lo = l ∧ hi = h ∧ l ≤ h ∧ h ≤ len ∧ K l h
theorem vrange_intro {lo hi : Int} {len : Nat} {K : Nat → Nat → Prop} (l h : Nat) (h1 : lo = l) (h2 : hi = h) (h3 : l ≤ h) (h4 : h ≤ len) (k : K l h) : vrange lo hi len K := by unfold vrange; exact ⟨l, h, h1, h2, h3, h4, k⟩
theorem vrange_elim {lo hi : Int} {len : Nat} {K : Nat → Nat → Prop} (h : vrange lo hi len K) : ∃ l h : Nat, lo = l ∧ hi = h ∧ l ≤ h ∧ h ≤ len ∧ K l h := by unfold vrange at h; exact h

theorem info_of (hΘ : ThOk P Θ) {t : Nat} {i : TI} (h : Θ t = some i) : ∃ inf, P.info? t = some inf ∧ inf.size = i.sz := by
  obtain ⟨inf, z, h1, h2, _⟩ := (hΘ t i h).info
  exact ⟨inf, h1, h2⟩
theorem run_sizeOf_of (hΘ : ThOk P Θ) {t : Nat} {i : TI} (h : Θ t = some i) : (sizeOf t).run P w = .ok i.sz w := by
  obtain ⟨inf, h1, h2⟩ := info_of hΘ h
  simp [sizeOf, typeInfo, h1, h2]
theorem run_und {t : Nat} {x : TypeDesc} (h : P.underlying t = some x) : (underlying t).run P w = .ok x w := by simp [underlying, h]
theorem add_at {x : Addr} (h : x.spot = none) (n : Nat) : x.add n = ⟨x.block, x.off + n, none⟩ := by
  unfold Addr.add
  split
  · rename_i e; subst e; cases x; simp_all
  · rfl

/-! #### indexAddr -/
def szIs (Θ : Nat → Option TI) (t : Nat) (s : Nat) : Bool := match Θ t with | some i => Nat.beq i.sz s | none => false
theorem szIs_run (hΘ : ThOk P Θ) {t s : Nat} (h : szIs Θ t s = true) : (sizeOf t).run P w = .ok s w := by
  unfold szIs at h
  cases e : Θ t with
  | none => rw [e] at h; cases h
  | some i => rw [e] at h; rw [run_sizeOf_of hΘ e, Nat.eq_of_beq_eq_true h]

def V.isHd : V → Option Pl
  | .hd q => some q
  | _ => none
def vixA (Θ : Nat → Option TI) (t : Nat) (σ : St) (x ix : Operand) (K : V → St → Prop) : Prop :=
  match σ.ev ix with
  | .val (.int _ n) => bif (tk Θ t).isSl then (match σ.ev x with
    | .hd q => (match σ.plc q with
      | some (s, xs) => bif szIs Θ (tk Θ t).el s then vix n xs.length fun i => K (.el q s i 0) σ else False
      | none => False)
    | v => (match σ.lst v with
      | some (oo, _, s, xs) => bif szIs Θ (tk Θ t).el s then vat xs n fun c => K (.rp oo c) σ else False
      | none => False)) else False
  | _ => False

theorem run_indexAt {t e : Nat} {k : IntKind} {n : Nat} {b len cap s : Nat} {off : Nat} (ht : P.underlying t = some (.slice e)) (hs : (sizeOf e).run P w = .ok s w) (hn : n < len) :
    (Instr.indexAt t (.slice (some ⟨b, off, none⟩) len cap) (.int k n)).run P w = .ok (.pointer (some ⟨b, off + n * s, none⟩)) w := by
  have h1 : (0 : Int) ≤ n ∧ (n : Int) < len := ⟨by omega, by omega⟩
  have e1 : ∀ n, (⟨b, off, none⟩ : Addr).add n = ⟨b, off + n, none⟩ := fun n => add_at rfl n
  simp [Instr.indexAt, asIntOf, run_und ht, hs, h1, e1, hn]

theorem vixA_sound (hΘ : ThOk P Θ) {t : TypeId} {x ix : Operand} (ho : o.op = .indexAddr t x ix) (h : vixA Θ t σ x ix K) (r : RS B g σ a w) : DoneQ P g σ o a w d K := by
  unfold vixA at h
  have hx := r.ev x d
  have hi := r.ev ix d
  split at h
  · rename_i k n e
    rw [e, RT.val] at hi
    cases hb : (tk Θ t).isSl with
    | false => simp only [hb, cond_false] at h
    | true =>
      simp only [hb, cond_true] at h
      have hu := isSl_und hΘ hb
      split at h
      · rename_i q ex
        rw [ex] at hx
        simp only [RT, RG, RC] at hx
        split at h
        · rename_i s xs hp
          cases hz : szIs Θ (tk Θ t).el s with
          | false => simp only [hz, cond_false] at h
          | true =>
            simp only [hz, cond_true] at h
            obtain ⟨i, hn, hl, hk⟩ := vix_elim h
            obtain ⟨u, h1, h2⟩ := r.plc hp
            rw [hx.1] at h1
            simp only [Option.some.injEq] at h1
            have h2' := h2
            obtain ⟨fp, h3, _⟩ := h2
            simp only [Ow] at h3
            rcases h3 with ⟨rfl, _⟩ | ⟨b, arr, e', cap, f, fr, hu', h4, h5, h6, _⟩
            · simp at hl
            · refine Done.same (v := .el q s i 0) (u := .pointer (some ⟨b, 0 + i * s, none⟩)) (fun w' _ => ?_) hk r ⟨b, xs.length, cap, ?_, hl, by simp⟩
              · simp only [execOp, ho, hi.1, h1, hu', hn]
                simp [run_indexAt hu (szIs_run hΘ hz) hl]
              · rw [hx.1, h1, hu']
        · exact h.elim
      · rename_i v ex
        split at h
        · rename_i oo k' s xs hl
          cases hz : szIs Θ (tk Θ t).el s with
          | false => simp only [hz, cond_false] at h
          | true =>
            simp only [hz, cond_true] at h
            obtain ⟨i, c, hn, hc, hk⟩ := vat_elim h
            have hr := r.lst (RT.rc_of_lst hl hx) hl
            have hlen : i < xs.length := by
              rcases Nat.lt_or_ge i xs.length with h' | h'
              · exact h'
              · rw [List.getElem?_eq_none h'] at hc; cases hc
            simp only [Rd] at hr
            obtain ⟨A, cap, h1, h2, h3, h4⟩ := hr
            rcases h4 with h4 | ⟨ad, arr, e', fr, rfl, h5, h6, h7, h8⟩
            · omega
            · have hg := h8.get i c hc
              rw [List.drop_drop] at hg
              obtain ⟨bl, off, sp⟩ := ad
              simp only at h5
              subst h5
              refine Done.same (v := .rp oo c) (u := .pointer (some ⟨bl, off + i * s, none⟩)) (fun w' _ => ?_) hk r ⟨_, arr, e', fr, rfl, rfl, ⟨k', h6⟩, h7, hg.2⟩
              simp only [execOp, ho, hi.1, h1, hn]
              simp [run_indexAt hu (szIs_run hΘ hz) hlen]
        · exact h.elim
  · exact h.elim

/-! #### nilCheck, fieldAddr -/
def V.isPtr : V → Bool
  | .ptr _ _ | .el _ _ _ _ | .rp _ _ => true
  | _ => false
theorem V.isPtr_val {v : V} {u : Value} {q : Pl} (h : v.isPtr = true) (r : RC g a w q v u) : ∃ x : Addr, u = .pointer (some x) ∧ x.spot = none := by
  cases v <;> simp only [V.isPtr, reduceCtorEq] at h
  · exact ⟨_, r, rfl⟩
  · obtain ⟨b, len, cap, _, _, h⟩ := r; exact ⟨_, h, rfl⟩
  · obtain ⟨x, arr, e, fr, h, h', _⟩ := r; exact ⟨x, h, h'⟩
theorem RT.rc_of_ptr {v : V} {u : Value} (h : v.isPtr = true) (ht : RT g a w d v u) : RC g a w (.sl d 0 0) v u := by
  cases v <;> first | exact ht | (simp [V.isPtr] at h)
def vnil (σ : St) (x : Operand) (K : V → St → Prop) : Prop := bif (σ.ev x).isPtr then K (σ.ev x) σ else False
theorem vnil_sound {x : Operand} (ho : o.op = .nilCheck x) (h : vnil σ x K) (r : RS B g σ a w) : DoneQ P g σ o a w d K := by
  unfold vnil at h
  have hx := r.ev x d
  cases hb : (σ.ev x).isPtr with
  | false => simp only [hb, cond_false] at h
  | true =>
    simp only [hb, cond_true] at h
    obtain ⟨y, hy, _⟩ := V.isPtr_val hb (RT.rc_of_ptr hb hx)
    exact Done.same (u := a.eval x) (fun w _ => by simp [execOp, ho, hy]) h r hx

def TK.fld : TK → Nat → Option (Nat × Nat)
  | .struct fs, j => fs[j]?
  | _, _ => none
def szPos (Θ : Nat → Option TI) (t : Nat) : Bool := match Θ t with | some i => Nat.blt 0 i.sz | none => false
theorem szPos_run (hΘ : ThOk P Θ) {t : Nat} (h : szPos Θ t = true) : ∃ s, (sizeOf t).run P w = .ok s w ∧ s ≠ 0 := by
  unfold szPos at h
  cases e : Θ t with
  | none => rw [e] at h; cases h
  | some i =>
    rw [e] at h
    refine ⟨i.sz, run_sizeOf_of hΘ e, ?_⟩
    have : 1 ≤ i.sz := by simpa [Nat.blt] using h
    omega
theorem run_fieldAt (hΘ : ThOk P Θ) {t j off ft : Nat} {x : Addr} (h : (tk Θ t).fld j = some (off, ft)) (hz : szPos Θ ft = true) :
    (Instr.fieldAt t (.pointer (some x)) j).run P w = .ok (.pointer (some (x.add off))) w := by
  rcases tk_some hΘ t with h2 | ⟨dd, h1, h2⟩
  · rw [h2] at h; cases h
  · obtain ⟨sz, hs, hs0⟩ := szPos_run (P := P) (w := w) hΘ hz
    revert h h2
    cases tk Θ t <;> intro h h2 <;> simp only [TK.fld, reduceCtorEq] at h
    rename_i fs
    obtain ⟨gs, rfl, hg⟩ := h2
    have hj : ∃ f, gs[j]? = some f ∧ f.offset = off ∧ f.type = ft := by
      rw [← hg, List.getElem?_map] at h
      cases hf : gs.toList[j]? with
      | none => rw [hf] at h; cases h
      | some f =>
        rw [hf] at h
        simp only [Option.map_some, Option.some.injEq, Prod.mk.injEq] at h
        exact ⟨f, by simpa using hf, h.1, h.2⟩
    obtain ⟨f, hf, rfl, rfl⟩ := hj
    simp [Instr.fieldAt, run_und h1, hf, Instr.sureAddr, fieldPlace, hs, hs0]

def vfldA (Θ : Nat → Option TI) (t : Nat) (σ : St) (x : Operand) (j : Nat) (K : V → St → Prop) : Prop :=
  match (tk Θ t).fld j with
  | some (off, ft) => bif szPos Θ ft then (match σ.ev x with
    | .ptr b o => K (.ptr b (o + off)) σ
    | .el q s i o => K (.el q s i (o + off)) σ
    | .rp oo cs => K (.rp oo (cs.drop off)) σ
    | _ => False) else False
  | none => False
theorem vfldA_sound (hΘ : ThOk P Θ) {t : TypeId} {x : Operand} {j : Nat} (ho : o.op = .fieldAddr t x j) (h : vfldA Θ t σ x j K) (r : RS B g σ a w) : DoneQ P g σ o a w d K := by
  unfold vfldA at h
  have hx := r.ev x d
  split at h
  · rename_i off ft e
    cases hz : szPos Θ ft with
    | false => simp only [hz, cond_false] at h
    | true =>
      simp only [hz, cond_true] at h
      have hrun : ∀ y : Addr, a.eval x = .pointer (some y) → ∀ w', Cw w w' → (execOp a.eval o).run P w' = .ok (.value (.pointer (some (y.add off)))) w' := by
        intro y hy w' _
        simp [execOp, ho, hy, run_fieldAt hΘ e hz]
      split at h
      · rename_i b o' ex
        rw [ex] at hx
        simp only [RT, RG, RC] at hx
        refine Done.same (hrun _ hx) h r ?_
        simp only [RT, RG, RC, add_at]
        simp; omega
      · rename_i q s i o' ex
        rw [ex] at hx
        simp only [RT, RG, RC] at hx
        obtain ⟨b, len, cap, h1, h2, h3⟩ := hx
        refine Done.same (hrun _ h3) h r ⟨b, len, cap, h1, h2, ?_⟩
        rw [add_at rfl]; simp; omega
      · rename_i oo cs ex
        rw [ex] at hx
        simp only [RT, RG, RC] at hx
        obtain ⟨y, arr, e', fr, h1, h2, h3, h4, h5⟩ := hx
        refine Done.same (hrun _ h1) h r ⟨_, arr, e', fr, rfl, ?_, ?_, ?_, ?_⟩
        · rw [add_at h2]
        · rw [add_at h2]; exact h3
        · rw [add_at h2]; exact h4
        · rw [add_at h2]
          have := h5.drop off
          rw [List.drop_drop] at this
          exact this
      · exact h.elim
  · exact h.elim
end ops
end Go.Proofs.YtfdmlccbfbiloaaGreatDoor.Vs
/- The calculus: loads; a text's bytes; parts of texts and slices; conversions. -/
namespace Go.Proofs.YtfdmlccbfbiloaaGreatDoor.Vs
open Go
variable [Gl]
set_option linter.unusedSectionVars false
section ops
variable {P : Program} {B : Bs} {g : Gh} {σ : St} {a : Act} {w : World} {o : Oper} {d : Nat} {K : V → St → Prop} {Θ : Nat → Option TI}

def cv (o : Option Pl) : C → V
  | .v x => .val x
  | .sl k s xs => .rd o (.sl k s xs)
/-- a cell of element i of the own list at q -/
def cvE1 (q : Pl) (s i o : Nat) : C → V
  | .v x => .val x
  | .sl true s' ys => .ne q s i o (.sl true s' ys)
  | .sl false s' ys => .rd (some q) (.sl false s' ys)
def cvE (q : Pl) (s i : Nat) : Nat → List C → List V
  | _, [] => []
  | o, c :: r => cvE1 q s i o c :: cvE q s i (o + 1) r
theorem cvE_len {q : Pl} {s i : Nat} : ∀ {l : List C} {o : Nat}, (cvE q s i o l).length = l.length
  | [], _ => rfl
  | c :: r, o => by simp [cvE, cvE_len (l := r)]
theorem cvE_get {q : Pl} {s i : Nat} : ∀ {l : List C} {o j : Nat} {v : V}, (cvE q s i o l)[j]? = some v → ∃ c, l[j]? = some c ∧ v = cvE1 q s i (o + j) c
  | [], o, j, v, h => by simp [cvE] at h
  | c :: r, o, j, v, h => by
    cases j with
    | zero => simp only [cvE, List.getElem?_cons_zero, Option.some.injEq] at h; exact ⟨c, rfl, h.symm⟩
    | succ j =>
      obtain ⟨c', h1, h2⟩ := cvE_get (l := r) (o := o + 1) (j := j) (by simpa [cvE] using h)
      exact ⟨c', by simpa using h1, by rw [h2, show o + 1 + j = o + (j + 1) by omega]⟩
def vcells (ti : TI) (l : List V) (K : V → Prop) : Prop :=
  bif ti.k.agg then (bif Nat.beq l.length ti.sz then K (.agg l) else False) else (match l with | [v] => bif Nat.beq ti.sz 1 then K v else False | _ => False)
def vload (Θ : Nat → Option TI) (t : Nat) (σ : St) (p : Operand) (K : V → St → Prop) : Prop :=
  match Θ t with
  | none => False
  | some ti => match σ.ev p with
    | .ptr b off => (match σ.box b with
      | some cs => vcells ti (alL (.bx b) off ((cs.drop off).take ti.sz)) fun v => K v σ
      | none => False)
    | .rp oo cs => vcells ti ((cs.take ti.sz).map (cv oo)) fun v => K v σ
    | .el q s i off => (match σ.plc q with
      | some (s', xs) => bif Nat.beq s s' then vat xs i fun c => vcells ti (cvE q s i off ((c.drop off).take ti.sz)) fun v => K v σ else False
      | none => False)
    | _ => False

theorem isAgg_run (hΘ : ThOk P Θ) {t : Nat} {ti : TI} (h : Θ t = some ti) : (isAgg t).run P w = .ok ti.k.agg w := by
  obtain ⟨dd, h1, h2⟩ := (hΘ t ti h).und
  revert h2
  cases ti.k <;> intro h2 <;> simp only [TK.isD] at h2
  all_goals first
    | (obtain ⟨gs, rfl, _⟩ := h2; simp [isAgg, underlying, h1, TK.agg])
    | (subst h2; simp [isAgg, underlying, h1, TK.agg])
    | (cases dd <;> first | exact h2.elim | simp [isAgg, underlying, h1, TK.agg])

theorem run_loadVar (hΘ : ThOk P Θ) {t : Nat} {ti : TI} (h : Θ t = some ti) (x : Addr) (us : List Value) (hl : us.length = ti.sz) (hc : ∀ (j : Nat) v, us[j]? = some v → w.cell? (x.add j) = some v) :
    (ti.k.agg = true → (loadVar t x).run P w = .ok (.agg us.toArray) w) ∧ (ti.k.agg = false → ∀ v, us = [v] → (loadVar t x).run P w = .ok v w) := by
  constructor
  · intro ha
    have := run_loadCells_list (P := P) w x us hc
    rw [hl] at this
    simp [loadVar, isAgg_run hΘ h, ha, run_sizeOf_of hΘ h, this]
  · rintro ha v rfl
    have := hc 0 v rfl
    have e : x.add 0 = x := by simp [Addr.add]
    rw [e] at this
    simp [loadVar, isAgg_run hΘ h, ha, this]

theorem cw_cell {w' : World} (h : Cw w w') {x : Addr} {v : Value} (hc : w.cell? x = some v) : w'.cell? x = some v := by
  have : x.block < w.heap.size := by
    rcases Nat.lt_or_ge x.block w.heap.size with h' | h'
    · exact h'
    · simp [World.cell?, Array.getElem?_eq_none h'] at hc
  simp only [World.cell?, h _ this] at hc ⊢
  exact hc
theorem vcells_sound (hΘ : ThOk P Θ) {t : TypeId} {ti : TI} (h : Θ t = some ti) {p : Operand} (ho : o.op = .load t p) {x : Addr} (hp : a.eval p = .pointer (some x)) {l : List V} {us : List Value}
    (hlen : l.length = us.length) (hc : ∀ (j : Nat) v, us[j]? = some v → w.cell? (x.add j) = some v) (hr : ∀ (j : Nat) v u, l[j]? = some v → us[j]? = some u → ∀ q, RC g a w q v u)
    (hk : vcells ti l fun v => K v σ) (r : RS B g σ a w) : DoneQ P g σ o a w d K := by
  unfold vcells at hk
  have hex : ∀ u, (∀ w', Cw w w' → (loadVar t x).run P w' = .ok u w') → ∀ w', Cw w w' → (execOp a.eval o).run P w' = .ok (.value u) w' := by
    intro u hu w' hw
    simp [execOp, ho, hp, Instr.loadAt, Instr.sureAddr, hu w' hw]
  have hc2 : ∀ w', Cw w w' → ∀ (j : Nat) v, us[j]? = some v → w'.cell? (x.add j) = some v := fun w' hw j v hv => cw_cell hw (hc j v hv)
  cases ha : ti.k.agg with
  | true =>
    simp only [ha, cond_true] at hk
    cases hn : Nat.beq l.length ti.sz with
    | false => simp only [hn, cond_false] at hk
    | true =>
      simp only [hn, cond_true] at hk
      have := fun w' (hw : Cw w w') => (run_loadVar (w := w') hΘ h x us (by rw [← hlen]; exact Nat.eq_of_beq_eq_true hn) (hc2 w' hw)).1 ha
      refine Done.same (hex _ this) hk r ⟨us.toArray, rfl, by simp [hlen], fun j v u hv hu => hr j v u hv (by simpa using hu) _⟩
  | false =>
    simp only [ha, cond_false] at hk
    match l, hlen, hr, hk with
    | [v], hlen, hr, hk =>
      simp only at hk
      cases hn : Nat.beq ti.sz 1 with
      | false => simp only [hn, cond_false] at hk
      | true =>
        simp only [hn, cond_true] at hk
        match us, hlen, hc, hr with
        | [u], hlen, hc, hr =>
          have := fun w' (hw : Cw w w') => (run_loadVar (w := w') hΘ h x [u] (by simpa using (Nat.eq_of_beq_eq_true hn).symm) (fun j v hv => cw_cell hw (hc j v hv))).2 ha u rfl
          have hq := hr 0 v u rfl rfl (.sl d 0 0)
          refine Done.same (hex _ this) hk r ?_
          cases v <;> first | exact hq | exact hq.elim
    | [], _, _, hk => exact hk.elim
    | _ :: _ :: _, _, _, hk => exact hk.elim

theorem cv_rc {o : Option Pl} {c : C} {u : Value} (h : Rd (Sf g.ow o) w c u) (q : Pl) : RC g a w q (cv o c) u := by
  cases c with
  | v x => simp only [Rd] at h; exact h
  | sl k s xs => exact h
theorem cell_of {b : Nat} {arr : Array Value} {e : TypeId} {fr : Nat × Nat} (h : w.heap[b]? = some (.cells arr e fr)) (n : Nat) : w.cell? ⟨b, n, none⟩ = arr[n]? := by
  simp [World.cell?, h]

theorem vload_rd (hΘ : ThOk P Θ) {t : TypeId} {ti : TI} (h : Θ t = some ti) {p : Operand} (ho : o.op = .load t p) {x : Addr} (hp : a.eval p = .pointer (some x)) (hs : x.spot = none) {oo : Option Pl} {cs : List C}
    {arr : Array Value} {e : TypeId} {fr : Nat × Nat} (hb : w.heap[x.block]? = some (.cells arr e fr)) (hrd : RdL (Sf g.ow oo) w cs (arr.toList.drop x.off))
    (hk : vcells ti ((cs.take ti.sz).map (cv oo)) fun v => K v σ) (r : RS B g σ a w) : DoneQ P g σ o a w d K := by
  have hlen := (hrd.take ti.sz).len
  refine vcells_sound hΘ h ho hp (us := (arr.toList.drop x.off).take (cs.take ti.sz).length) ?_ ?_ ?_ hk r
  · rw [List.length_map, List.length_take_of_le hlen]
  · intro j v hv
    rw [add_at hs, cell_of hb]
    rw [List.getElem?_take] at hv
    split at hv
    · rw [List.getElem?_drop] at hv; simpa using hv
    · cases hv
  · intro j v u hv hu q
    rw [List.getElem?_map] at hv
    cases hc : (cs.take ti.sz)[j]? with
    | none => rw [hc] at hv; cases hv
    | some c =>
      rw [hc] at hv
      simp only [Option.map_some, Option.some.injEq] at hv
      subst hv
      obtain ⟨u', h1, h2⟩ := (hrd.take ti.sz).get j c hc
      rw [List.getElem?_take] at hu
      split at hu
      · rw [h1] at hu; simp only [Option.some.injEq] at hu; subst hu; exact cv_rc h2 q
      · cases hu

theorem vload_sound (hΘ : ThOk P Θ) {t : TypeId} {p : Operand} (ho : o.op = .load t p) (h : vload Θ t σ p K) (r : RS B g σ a w) : DoneQ P g σ o a w d K := by
  unfold vload at h
  have hp := r.ev p d
  split at h
  · exact h.elim
  · rename_i ti ht
    split at h
    · rename_i b off ep
      rw [ep] at hp
      simp only [RT, RG, RC] at hp
      split at h
      · rename_i cs hb
        obtain ⟨h1, arr, e, fr, h2, h3⟩ := r.2.2.2.2 b cs hb
        have hget : ∀ (j : Nat) v, ((cs.drop off).take ti.sz)[j]? = some v → cs[off + j]? = some v := by
          intro j v hv
          rw [List.getElem?_take] at hv
          split at hv
          · rwa [List.getElem?_drop] at hv
          · cases hv
        refine vcells_sound hΘ ht ho hp (us := (arr.toList.drop ((g.ad b).2 + off)).take ((cs.drop off).take ti.sz).length) ?_ ?_ ?_ h r
        · have hL : ((cs.drop off).take ti.sz).length ≤ (arr.toList.drop ((g.ad b).2 + off)).length := by
            rcases Nat.eq_zero_or_pos ((cs.drop off).take ti.sz).length with h0 | h0
            · omega
            · have : ∃ v, ((cs.drop off).take ti.sz)[((cs.drop off).take ti.sz).length - 1]? = some v := ⟨_, List.getElem?_eq_getElem (by omega)⟩
              obtain ⟨v, hv⟩ := this
              obtain ⟨_, u, h4, _⟩ := h3 _ v (hget _ v hv)
              have h5 : (g.ad b).2 + (off + (((cs.drop off).take ti.sz).length - 1)) < arr.size := (Array.getElem?_eq_some_iff.1 h4).1
              have h6 : (arr.toList.drop ((g.ad b).2 + off)).length = arr.size - ((g.ad b).2 + off) := by simp
              rw [h6]
              generalize ((cs.drop off).take ti.sz).length = m at *
              omega
          rw [alL_len]
          exact (List.length_take_of_le hL).symm
        · intro j v hv
          rw [add_at rfl, cell_of h2]
          rw [List.getElem?_take] at hv
          split at hv
          · rw [List.getElem?_drop] at hv; simpa using hv
          · cases hv
        · intro j v u hv hu q
          obtain ⟨v0, hv0, rfl⟩ := alL_get (.bx b) _ off j v hv
          have hc := hget j v0 hv0
          obtain ⟨_, u', h4, h5, h6⟩ := h3 _ v0 hc
          have : u = u' := by
            rw [List.getElem?_take] at hu
            split at hu
            · rw [List.getElem?_drop] at hu
              rw [show (g.ad b).2 + off + j = (g.ad b).2 + (off + j) from by omega] at hu
              have hu' : arr[(g.ad b).2 + (off + j)]? = some u := by simpa using hu
              rw [h4] at hu'; simpa using hu'.symm
            · cases hu
          subst this
          exact RC.al (by simp only [hdr, h1, if_true]; rw [cell_of h2]; exact h4) h6 q
      · exact h.elim
    · rename_i oo cs ep
      rw [ep] at hp
      simp only [RT, RG, RC] at hp
      obtain ⟨x, arr, e, fr, h1, h2, h3, h4, h5⟩ := hp
      exact vload_rd hΘ ht ho h1 h2 h4 h5 h r
    · rename_i q s i off ep
      rw [ep] at hp
      simp only [RT, RG, RC] at hp
      obtain ⟨b, len, cap, h1, h2, h3⟩ := hp
      split at h
      · rename_i s' xs hq
        cases hss : Nat.beq s s' with
        | false => simp only [hss, cond_false] at h
        | true =>
          simp only [hss, cond_true] at h
          have := Nat.eq_of_beq_eq_true hss
          subst this
          obtain ⟨j, c, hj, hc, hk⟩ := vat_elim h
          have hij : i = j := by omega
          subst hij
          obtain ⟨u, h4, h5⟩ := r.plc hq
          have h6 := h5.rd
          rw [h1] at h4
          simp only [Option.some.injEq] at h4
          subst h4
          simp only [Rd, Value.slice.injEq] at h6
          obtain ⟨A, cap', ⟨rfl, rfl, rfl⟩, h7, h8, h9⟩ := h6
          have hlt : i < xs.length := (List.getElem?_eq_some_iff.1 hc).1
          rcases h9 with h9 | ⟨ad, arr, e, fr, h10, h11, h12, h13, h14⟩
          · omega
          · simp only [Option.some.injEq] at h10
            subst h10
            have hg := (h14.get i c hc).2.drop off
            rw [List.drop_drop, List.drop_drop] at hg
            have hg : RdL (Sf g.ow (some q)) w ((c.drop off).take ti.sz) (arr.toList.drop (i * s + off)) := by
              have := hg.take ti.sz
              simpa [Nat.add_assoc] using this
            have hln := hg.len
            refine vcells_sound hΘ ht ho (x := ⟨b, i * s + off, none⟩) h3 (us := (arr.toList.drop (i * s + off)).take ((c.drop off).take ti.sz).length) ?_ (fun j v hv => ?_) (fun j v u hv hu q' => ?_) hk r
            · rw [cvE_len]; exact (List.length_take_of_le hln).symm
            · rw [add_at rfl, cell_of h13]
              rw [List.getElem?_take] at hv
              split at hv
              · rw [List.getElem?_drop] at hv; simpa using hv
              · cases hv
            · obtain ⟨c0, hc0, rfl⟩ := cvE_get hv
              obtain ⟨u', e1, e2⟩ := RdL.get hg j c0 hc0
              have hu : (arr.toList.drop (i * s + off))[j]? = some u := by
                rw [List.getElem?_take] at hu
                split at hu
                · exact hu
                · cases hu
              rw [hu, Option.some.injEq] at e1
              subst e1
              cases c0 with
              | v x => exact e2
              | sl k s' ys =>
                cases k with
                | false => exact e2
                | true =>
                  refine ⟨e2, b, _, _, h1, h2, by simpa [Sf] using h12, ?_⟩
                  rw [cell_of h13]
                  rw [List.getElem?_drop] at hu
                  rw [show i * s + (off + j) = i * s + off + j by omega]
                  simpa using hu
      · exact h.elim
    · exact h.elim
end ops
end Go.Proofs.YtfdmlccbfbiloaaGreatDoor.Vs
/- The calculus: a text's bytes; parts of texts and slices; conversions. -/
namespace Go.Proofs.YtfdmlccbfbiloaaGreatDoor.Vs
open Go
variable [Gl]
set_option linter.unusedSectionVars false
section ops
variable {P : Program} {B : Bs} {g : Gh} {σ : St} {a : Act} {w : World} {o : Oper} {d : Nat} {K : V → St → Prop} {Θ : Nat → Option TI}

theorem heap_lt0 {w : World} {b : Nat} (h : (w.heap[b]?).isSome = true) : b < w.heap.size := by
  rcases Nat.lt_or_ge b w.heap.size with h' | h'
  · exact h'
  · rw [Array.getElem?_eq_none h'] at h; cases h

/-! #### s[i] -/
def byteAt (l : List UInt8) (i : Nat) : Int := ((l.getD i 0).toNat : Int)
def vidx (Θ : Nat → Option TI) (t : Nat) (σ : St) (x ix : Operand) (K : V → St → Prop) : Prop :=
  match σ.ev x, σ.ev ix with
  | .val (.string s), .val (.int _ n) => bif (tk Θ t).isStr then vix n (sb s).length fun i => K (.val (.int .u8 (byteAt (sb s) i))) σ else False
  | _, _ => False
theorem vidx_sound (hΘ : ThOk P Θ) {t : TypeId} {x ix : Operand} (ho : o.op = .index t x ix) (h : vidx Θ t σ x ix K) (r : RS B g σ a w) : DoneQ P g σ o a w d K := by
  unfold vidx at h
  have hx := r.ev x d
  have hi := r.ev ix d
  split at h
  · rename_i s k n ex ei
    rw [ex, RT.val] at hx
    rw [ei, RT.val] at hi
    cases hb : (tk Θ t).isStr with
    | false => simp only [hb, cond_false] at h
    | true =>
      simp only [hb, cond_true] at h
      obtain ⟨i, hn, hl, hk⟩ := vix_elim h
      have hu := isStr_und hΘ hb
      refine Done.val (fun w' _ => ?_) hk r rfl
      have hs : i < s.size := by rw [size_sb]; exact hl
      have e : s[i]? = some s[i] := by simp [hs]
      have e2 : ((s[i].toNat : Nat) : Int) = byteAt (sb s) i := by
        unfold byteAt sb
        have : s.data.toList[i]? = some s[i] := by
          rw [Array.getElem?_toList]; simp [ByteArray.getElem_eq_getElem_data]
        rw [List.getD_eq_getElem?_getD, this]; rfl
      simp [execOp, ho, hx.1, hi.1, hn, Instr.index, asIntOf, run_und hu, e]
      exact e2
  · exact h.elim

/-! #### x[lo:hi] -/
def bnd (σ : St) (x : Option Operand) (dflt : Int) : Option Int :=
  match x with
  | none => some dflt
  | some x => match σ.ev x with
    | .val (.int _ n) => some n
    | _ => none
theorem bnd_some {x : Option Operand} {dflt n : Int} (h : bnd σ x dflt = some n) (r : RS B g σ a w) : (x = none ∧ n = dflt) ∨ ∃ y k, x = some y ∧ a.eval y = .int k n := by
  unfold bnd at h
  split at h
  · simp only [Option.some.injEq] at h; exact .inl ⟨rfl, h.symm⟩
  · rename_i y
    have hy := r.ev y 0
    split at h
    · rename_i k m e
      rw [e, RT.val] at hy
      simp only [Option.some.injEq] at h
      subst h
      exact .inr ⟨y, k, rfl, hy.1⟩
    · cases h
def pickSl (lo : Option Operand) (v : V) (h : Nat) (alt : V) : V :=
  match lo, v with
  | none, .hd q => .pre q h
  | _, _ => alt
theorem pickSl_or (lo : Option Operand) (v : V) (h : Nat) (alt : V) : pickSl lo v h alt = alt ∨ (lo = none ∧ ∃ q, v = .hd q ∧ pickSl lo v h alt = .pre q h) := by
  cases lo with
  | some y => exact .inl rfl
  | none => cases v <;> first | exact .inl rfl | exact .inr ⟨rfl, _, rfl, rfl⟩
def vslice (Θ : Nat → Option TI) (t : Nat) (σ : St) (x : Operand) (lo hi : Option Operand) (K : V → St → Prop) : Prop :=
  match σ.ev x with
  | .val (.string s) => bif (tk Θ t).isStr then (match bnd σ lo 0, bnd σ hi (sb s).length with
    | some l, some h => vrange l h (sb s).length fun l h => K (.val (.string (bs (((sb s).drop l).take (h - l))))) σ
    | _, _ => False) else False
  | v => bif (tk Θ t).isSl then (match σ.lst v with
    | some (oo, k, s, xs) => bif szIs Θ (tk Θ t).el s then (match bnd σ lo 0, bnd σ hi xs.length with
      | some l, some h => vrange l h xs.length fun l h => K (pickSl lo v h (.rd oo (.sl k s ((xs.drop l).take (h - l))))) σ
      | _, _ => False) else False
    | none => False) else False

theorem run_bounds (isS : Bool) {len cap l h : Nat} {lo hi : Option Value} (h1 : (lo = none ∧ l = 0) ∨ ∃ k, lo = some (.int k l)) (h2 : (hi = none ∧ h = len) ∨ ∃ k, hi = some (.int k h)) (hlh : l ≤ h) (hc : h ≤ cap) :
    (Instr.sliceBounds isS len cap lo hi none).run P w = .ok (l, h, cap) w := by
  have e1 : ∀ k code, (Instr.sliceBound (.int k l) h code).run P w = .ok l w := fun k code => by
    rw [run_sliceBound _ _ _ _ _ (by omega) (by omega)]; simp
  have e2 : ∀ k code, (Instr.sliceBound (.int k h) cap code).run P w = .ok h w := fun k code => by
    rw [run_sliceBound _ _ _ _ _ (by omega) (by omega)]; simp
  rcases h1 with ⟨rfl, rfl⟩ | ⟨k, rfl⟩ <;> rcases h2 with ⟨rfl, rfl⟩ | ⟨k', rfl⟩ <;> simp [Instr.sliceBounds, e1, e2]

theorem vslice_sound (hΘ : ThOk P Θ) {t : TypeId} {x : Operand} {lo hi : Option Operand} (ho : o.op = .slice t x lo hi none) (h : vslice Θ t σ x lo hi K) (r : RS B g σ a w) : DoneQ P g σ o a w d K := by
  unfold vslice at h
  have hx := r.ev x d
  have hbd : ∀ (y : Option Operand) (df : Nat) (m : Int) (n : Nat), bnd σ y df = some m → m = n → ((y.map a.eval = none ∧ n = df) ∨ ∃ k, y.map a.eval = some (.int k (n : Int))) := by
    intro y df m n hy hm
    rcases bnd_some hy r with ⟨rfl, h⟩ | ⟨z, k, rfl, h⟩
    · exact .inl ⟨rfl, by omega⟩
    · exact .inr ⟨k, by simp [h, hm]⟩
  split at h
  · rename_i s e
    rw [e, RT.val] at hx
    cases hb : (tk Θ t).isStr with
    | false => simp only [hb, cond_false] at h
    | true =>
      simp only [hb, cond_true] at h
      have hu := isStr_und hΘ hb
      split at h
      · rename_i l0 h0 el eh
        obtain ⟨l, hh, h1, h2, h3, h4, hk⟩ := vrange_elim h
        refine Done.val (fun w' _ => ?_) hk r rfl
        have := run_bounds (P := P) (w := w') false (hbd lo 0 l0 l el h1) (hbd hi (sb s).length h0 hh eh h2) h3 h4
        rw [← size_sb] at this
        have e3 : s.extract l hh = bs (((sb s).drop l).take (hh - l)) := by
          apply ByteArray.ext
          apply Array.ext'
          simp [bs, sb, List.extract_eq_take_drop]
        simp [execOp, ho, hx.1, Instr.sliceAt, run_und hu, Instr.slice, this, e3]
      · exact h.elim
  · rename_i v e
    cases hb : (tk Θ t).isSl with
    | false => simp only [hb, cond_false] at h
    | true =>
      simp only [hb, cond_true] at h
      have hu := isSl_und hΘ hb
      split at h
      · rename_i oo k s xs hl
        cases hz : szIs Θ (tk Θ t).el s with
        | false => simp only [hz, cond_false] at h
        | true =>
          simp only [hz, cond_true] at h
          split at h
          · rename_i l0 h0 el eh
            obtain ⟨l, hh, h1, h2, h3, h4, hk⟩ := vrange_elim h
            have hrc := RT.rc_of_lst hl hx
            have hr := r.lst hrc hl
            have hr0 := hr
            simp only [Rd] at hr
            obtain ⟨A, cap, hA, hc1, hc2, hE⟩ := hr
            have hrun : ∀ w', Cw w w' → (execOp a.eval o).run P w' = .ok (.value (.slice (if cap = l then A else A.map (·.add (l * s))) (hh - l) (cap - l))) w' := by
              intro w' _
              have := run_bounds (P := P) (w := w') true (cap := cap) (hbd lo 0 l0 l el h1) (hbd hi xs.length h0 hh eh h2) h3 (by omega)
              simp [execOp, ho, hA, Instr.sliceAt, run_und hu, Instr.slice, this, szIs_run hΘ hz]
            have hrd : Rd (Sf g.ow oo) w (.sl k s ((xs.drop l).take (hh - l))) (.slice (if cap = l then A else A.map (·.add (l * s))) (hh - l) (cap - l)) := by
              have hlen : ((xs.drop l).take (hh - l)).length = hh - l := by simp; omega
              simp only [Rd]
              refine ⟨_, cap - l, by rw [hlen], by omega, by omega, ?_⟩
              by_cases h0 : hh - l = 0
              · left; omega
              · right
                rcases hE with hE | ⟨ad, arr, e', fr, rfl, hsp, hS, hbk, hEE⟩
                · omega
                · refine ⟨⟨ad.block, ad.off + l * s, none⟩, arr, e', fr, ?_, rfl, hS, hbk, ?_⟩
                  · rw [if_neg (by omega)]; simp [add_at hsp]
                  · have := (hEE.drop l).take (hh - l)
                    rw [List.drop_drop] at this
                    exact this
            refine Done.same hrun hk r ?_
            rcases pickSl_or lo (σ.ev x) hh (.rd oo (.sl k s ((xs.drop l).take (hh - l)))) with e9 | ⟨rfl, q, e8, e9⟩
            · rw [e9]; exact hrd
            · rw [e9]
              rw [e8] at hrc
              simp only [RC] at hrc
              obtain ⟨hq, _⟩ := hrc
              have hl0 : l = 0 := by
                rcases bnd_some el r with ⟨_, h⟩ | ⟨z, k, h, _⟩
                · omega
                · cases h
              subst hl0
              refine ⟨A, xs.length, cap, by rw [hq, hA], h4, ?_⟩
              have : ∀ x : Addr, x.add 0 = x := fun x => by simp [Addr.add]
              cases A <;> simp [this]
          · exact h.elim
      · exact h.elim

/-! #### conversions -/
def bytesC (l : List UInt8) : List (List C) := l.map fun b => [C.v (.int .u8 b.toNat)]
@[irreducible] def vbytes (xs : List (List C)) (K : List UInt8 → Prop) : Prop := ∃ l, xs = bytesC l ∧ K l
theorem vbytes_intro {xs : List (List C)} {K : List UInt8 → Prop} (l : List UInt8) (h : xs = bytesC l) (k : K l) : vbytes xs K := by unfold vbytes; exact ⟨l, h, k⟩
theorem vbytes_elim {xs : List (List C)} {K : List UInt8 → Prop} (h : vbytes xs K) : ∃ l, xs = bytesC l ∧ K l := by unfold vbytes at h; exact h
def TK.isU8 : TK → Bool
  | .int .u8 => true
  | _ => false
theorem isU8_und (hΘ : ThOk P Θ) {t : Nat} (h : (tk Θ t).isU8 = true) : P.underlying t = some (.int .u8) := by
  rcases tk_some hΘ t with h2 | ⟨d, h1, h2⟩
  · rw [h2] at h; cases h
  · revert h2 h
    cases tk Θ t <;> intro hb h2 <;> first | (cases hb; done) | skip
    rename_i k
    cases k <;> first | (cases hb; done) | (rw [h1, h2])
/-- conversions that make no memory -/
def vconv (Θ : Nat → Option TI) (src dst : Nat) (σ : St) (x : Operand) (K : V → St → Prop) : Prop :=
  match tk Θ src, tk Θ dst, σ.ev x with
  | .int _, .int k, .val (.int _ n) => K (.val (.int k (k.wrap n))) σ
  | .string, .string, .val (.string s) => K (.val (.string s)) σ
  | .slice e, .string, v => bif (tk Θ e).isU8 then (bif szIs Θ e 1 then (match σ.lst v with
    | some (_, _, s, xs) => bif Nat.beq s 1 || xs.isEmpty then vbytes xs fun l => K (.val (.string (bs l))) σ else False
    | none => False) else False) else False
  | _, _, _ => False
theorem tk_is (hΘ : ThOk P Θ) {t : Nat} {k : TK} (h : tk Θ t = k) (hk : k ≠ .other) : ∃ d, P.underlying t = some d ∧ k.isD d := by
  rcases tk_some hΘ t with h2 | ⟨d, h1, h2⟩
  · exact absurd (h.symm.trans h2) hk
  · exact ⟨d, h1, h ▸ h2⟩
theorem vconv_sound (hΘ : ThOk P Θ) {src dst : TypeId} {x : Operand} (ho : o.op = .convert src dst x) (h : vconv Θ src dst σ x K) (r : RS B g σ a w) : DoneQ P g σ o a w d K := by
  unfold vconv at h
  have hx := r.ev x d
  split at h
  · rename_i k1 k k2 n h1 h2 e
    rw [e, RT.val] at hx
    obtain ⟨_, hu1, rfl⟩ := tk_is hΘ h1 (by simp)
    obtain ⟨_, hu2, rfl⟩ := tk_is hΘ h2 (by simp)
    exact Done.val (fun w _ => by simp [execOp, ho, hx.1, convert, run_und hu1, run_und hu2, Conv.intToInt]) h r rfl
  · rename_i s h1 h2 e
    rw [e, RT.val] at hx
    obtain ⟨_, hu1, rfl⟩ := tk_is hΘ h1 (by simp)
    obtain ⟨_, hu2, rfl⟩ := tk_is hΘ h2 (by simp)
    exact Done.val (fun w _ => by simp [execOp, ho, hx.1, convert, run_und hu1, run_und hu2]) h r rfl
  · rename_i el h1 h2
    obtain ⟨_, hu1, rfl⟩ := tk_is hΘ h1 (by simp)
    obtain ⟨_, hu2, rfl⟩ := tk_is hΘ h2 (by simp)
    cases hb : (tk Θ el).isU8 with
    | false => simp only [hb, cond_false] at h
    | true =>
      simp only [hb, cond_true] at h
      have hu := isU8_und hΘ hb
      cases hz : szIs Θ el 1 with
      | false => simp only [hz, cond_false] at h
      | true =>
        simp only [hz, cond_true] at h
        split at h
        · rename_i oo k s xs hl
          cases hs : Nat.beq s 1 || xs.isEmpty with
          | false => simp only [hs, cond_false] at h
          | true =>
            simp only [hs, cond_true] at h
            obtain ⟨l, rfl, hk⟩ := vbytes_elim h
            have hr := r.lst (RT.rc_of_lst hl hx) hl
            simp only [Rd] at hr
            obtain ⟨A, cap, hA, hc1, hc2, hE⟩ := hr
            refine Done.val (fun w' hcw => ?_) hk r rfl
            cases A with
            | none =>
              have hl0 : l = [] := by
                rcases hE with hE | ⟨ad, _, _, _, hn, _⟩
                · simpa [bytesC] using hE
                · cases hn
              subst hl0
              have := run_convert_bytes_nil (P := P) w' src el hu1 hu (bytesC []).length cap dst hu2
              simp [execOp, ho, hA, this]; rfl
            | some ad =>
              by_cases hl0 : l = []
              · subst hl0
                obtain ⟨bl, off, sp⟩ := ad
                have : (loadCells (⟨bl, off, sp⟩ : Addr) 0).run P w' = .ok #[] w' := by simp [loadCells, loadCellsFrom]
                have h' : (convert src dst (.slice (some ⟨bl, off, sp⟩) (bytesC []).length cap)).run P w' = .ok (.string (bs [])) w' := by
                  rw [run_convert_bytes_string w' src dst el _ _ cap hu1 hu hu2, run_bytesToString w' _ _ cap [] (by simpa [bytesC] using this)]
                  rfl
                simp [execOp, ho, hA, h']
              · rcases hE with hE | ⟨ad', arr, e', fr, hn, hsp, hS, hbk, hEE⟩
                · exact absurd (by simpa [bytesC] using hE) hl0
                · simp only [Option.some.injEq] at hn
                  subst hn
                  have hbk' : w'.heap[ad.block]? = some (.cells arr e' fr) := (hcw _ (heap_lt0 (by rw [hbk]; rfl))).trans hbk
                  have hs1 : s = 1 := by
                    have : (bytesC l).isEmpty = false := by cases l <;> simp_all [bytesC]
                    rw [this, Bool.or_false] at hs
                    exact Nat.eq_of_beq_eq_true hs
                  subst hs1
                  obtain ⟨bl, off, sp⟩ := ad
                  simp only at hsp
                  subst hsp
                  have := run_convert_bytes_arg (P := P) w' src el hu1 hu bl off (bytesC l).length cap (l.map fun b => (b.toNat : Int)) (by simp [bytesC]) (by
                    intro i hi
                    have hi' : i < l.length := by simpa [bytesC] using hi
                    have hg := hEE.get i [C.v (.int .u8 l[i].toNat)] (by simp [bytesC, hi'])
                    obtain ⟨u, hu', hru⟩ := hg.2.get 0 _ rfl
                    simp only [Rd] at hru
                    rw [hru.1] at hu'
                    rw [List.drop_drop, List.getElem?_drop] at hu'
                    rw [cell_of hbk']
                    have : arr[off + i * 1 + 0]? = some (.int .u8 l[i].toNat) := by simpa using hu'
                    simp only [Nat.mul_one, Nat.add_zero] at this
                    rw [this]
                    simp [List.getD, hi']) dst hu2
                  have e5 : strOfNums (l.map fun b => (b.toNat : Int)) = bs l := by
                    apply ByteArray.ext
                    apply Array.ext'
                    rw [strOfNums_data]
                    simp only [bs, List.map_map]
                    exact (List.map_congr_left (fun b _ => by simp)).trans (List.map_id l)
                  simp [execOp, ho, hA, this, e5]
        · exact h.elim
  · exact h.elim
end ops
end Go.Proofs.YtfdmlccbfbiloaaGreatDoor.Vs
/- The calculus: memory that is made and written. -/
namespace Go.Proofs.YtfdmlccbfbiloaaGreatDoor.Vs
open Go
variable [Gl]
set_option linter.unusedSectionVars false

/-! #### cells written in a row -/
def spl (l : List Value) (o : Nat) (vs : List Value) : List Value := l.take o ++ vs ++ l.drop (o + vs.length)
theorem spl_len {l vs : List Value} {o : Nat} (h : o + vs.length ≤ l.length) : (spl l o vs).length = l.length := by
  simp [spl]; omega
theorem spl_out {l vs : List Value} {o j : Nat} (h : o + vs.length ≤ l.length) (hj : j < o ∨ o + vs.length ≤ j) : (spl l o vs)[j]? = l[j]? := by
  unfold spl
  rcases hj with hj | hj
  · rw [List.append_assoc, List.getElem?_append_left (by simp; omega), List.getElem?_take, if_pos hj]
  · rw [List.getElem?_append_right (by simp; omega), List.getElem?_drop]
    congr 1
    simp; omega
theorem spl_in {l vs : List Value} {o j : Nat} (h : o + vs.length ≤ l.length) (hj : j < vs.length) : (spl l o vs)[o + j]? = vs[j]? := by
  unfold spl
  rw [List.append_assoc, List.getElem?_append_right (by simp; omega), List.getElem?_append_left (by simp; omega)]
  congr 1
  simp; omega
theorem spl_step {l r : List Value} {o : Nat} {v : Value} (h : o < l.length) : spl (l.set o v) (o + 1) r = spl l o (v :: r) := by
  have e : l = l.take o ++ l[o] :: l.drop (o + 1) := by simp
  have hl : (l.take o).length = o := by simp; omega
  revert hl e
  generalize l.take o = l1
  generalize l[o] = x
  generalize l.drop (o + 1) = l2
  intro e hl
  subst e
  subst hl
  unfold spl
  rw [List.set_append_right _ _ (Nat.le_refl _), Nat.sub_self, List.set_cons_zero]
  have e1 : List.take (l1.length + 1) (l1 ++ v :: l2) = l1 ++ [v] := by simp [List.take_append, List.take_of_length_le]
  have e2 : ∀ z : Value, List.drop (l1.length + 1 + r.length) (l1 ++ z :: l2) = l2.drop r.length := fun z => by
    rw [List.drop_append, List.drop_eq_nil_of_le (by omega), List.nil_append, show l1.length + 1 + r.length - l1.length = r.length + 1 from by omega, List.drop_succ_cons]
  rw [e1, e2, List.length_cons, show l1.length + (r.length + 1) = l1.length + 1 + r.length from by omega, e2]
  simp
theorem setCells_heap (b : Nat) : ∀ (vs : List Value) (o : Nat) (w : World) (arr : Array Value) (e : TypeId) (fr : Nat × Nat), w.heap[b]? = some (.cells arr e fr) → o + vs.length ≤ arr.size →
    (w.setCells b o vs).heap[b]? = some (.cells ⟨spl arr.toList o vs⟩ e fr)
  | [], o, w, arr, e, fr, h, _ => by
    simp only [World.setCells, h, spl]
    congr 2
    apply Array.ext'
    simp
  | v :: r, o, w, arr, e, fr, h, hl => by
    have hlt : o < arr.size := by simp at hl; omega
    have h1 : (w.setCell ⟨b, o, none⟩ v).heap[b]? = some (.cells (arr.setIfInBounds o v) e fr) := by
      simp [World.setCell, Array.getElem?_modify, h]
    rw [World.setCells, setCells_heap b r (o + 1) _ _ e fr h1 (by simp at hl ⊢; omega)]
    rw [Array.toList_setIfInBounds, spl_step (by simpa using hlt)]
theorem setCells_other (b : Nat) : ∀ (vs : List Value) (o : Nat) (w : World) (k : Nat), k ≠ b → (w.setCells b o vs).heap[k]? = w.heap[k]?
  | [], _, _, _, _ => rfl
  | v :: r, o, w, k, h => by
    rw [World.setCells, setCells_other b r (o + 1) _ k h]
    have : b ≠ k := fun e => h e.symm
    simp [World.setCell, Array.getElem?_modify, this]
theorem setCells_rest (b : Nat) : ∀ (vs : List Value) (o : Nat) (w : World), (w.setCells b o vs).os = w.os ∧ (w.setCells b o vs).tape = w.tape ∧ (w.setCells b o vs).output = w.output ∧ (w.setCells b o vs).heap.size = w.heap.size
  | [], _, _ => ⟨rfl, rfl, rfl, rfl⟩
  | v :: r, o, w => by
    have := setCells_rest b r (o + 1) (w.setCell ⟨b, o, none⟩ v)
    rw [World.setCells]
    exact ⟨this.1, this.2.1, this.2.2.1, by rw [this.2.2.2]; simp [World.setCell]⟩

theorem run_storeRow {P : Program} {w : World} {b o : Nat} {arr : Array Value} {e : TypeId} {fr : Nat × Nat} (h : w.heap[b]? = some (.cells arr e fr)) (vs : List Value) (hl : o + vs.length ≤ arr.size)
    (hf : ∀ j, j < vs.length → ¬ (fr.1 ≤ o + j ∧ o + j < fr.2)) (h1 : ∀ v ∈ vs, v.oneCell' = true) : (storeCells ⟨b, o, none⟩ vs).run P w = .ok () (w.setCells b o vs) := by
  have := run_storeCells_cells (P := P) b o vs 0 w (fun j hj => by
    rw [cell_of h]
    have : o + 0 + j < arr.size := by omega
    rw [Array.getElem?_eq_getElem this]; rfl) (fun j hj => by
    have h2 := hf j hj
    simp only [World.frozen?, h, Nat.add_zero]
    rw [Bool.and_eq_false_iff]
    by_cases h3 : fr.1 ≤ o + j
    · right; simp; omega
    · left; simp; omega) h1
  simpa using this

section ops
variable {P : Program} {B : Bs} {g : Gh} {σ : St} {a : Act} {w : World} {o : Oper} {d : Nat} {K : V → St → Prop} {Θ : Nat → Option TI}

theorem lean_no : (∀ v : V, ∀ q, v.lean1 kf0 q = false) := by
  intro v q
  have h1 : ∀ l : List Pl, l.any noP = false := fun l => by rw [List.any_eq_false]; intro x _; simp [noP]
  have h2 : ∀ l : List Nat, l.any noB = false := fun l => by rw [List.any_eq_false]; intro x _; simp [noB]
  simp [V.lean1, kf0, h1, h2, noP]
theorem leanL_no (p : Nat → Pl) : ∀ (vs : List V) (j : Nat), leanL kf0 p j vs = false
  | [], _ => rfl
  | v :: r, j => by simp [leanL, lean_no v, leanL_no p r]
theorem leanG_no (v : V) (k i : Nat) : v.leanG kf0 k i = false := by
  cases v <;> simp only [V.leanG] <;> first | exact lean_no _ _ | exact leanL_no _ _ _
theorem leanGs_no (k : Nat) : ∀ (vs : List V) (j : Nat), leanGs kf0 k j vs = false
  | [], _ => rfl
  | v :: r, j => by simp [leanGs, leanG_no v, leanGs_no k r]
theorem leanT_no (v : V) (k : Nat) : v.leanT kf0 k = false := by
  cases v <;> simp only [V.leanT] <;> first | exact leanG_no _ _ _ | exact leanGs_no _ _ _
theorem leanS_no : ∀ s : List (Nat × V), leanS kf0 s = false
  | [] => rfl
  | (k, v) :: r => by simp [leanS, leanQ_eq, leanT_no v, leanS_no r]
theorem leanB_no : ∀ s : List (Nat × List V), leanB kf0 s = false
  | [] => rfl
  | (k, v) :: r => by simp only [leanB, leanL_no, leanB_no r]; rfl
theorem kill_no (σ : St) : σ.kill kf0 = σ := by
  simp only [St.kill, leanS_kill _ (leanS_no _), leanB_kill _ (leanB_no _)]

theorem heap_lt {b : Nat} (h : (w.heap[b]?).isSome = true) : b < w.heap.size := by
  rcases Nat.lt_or_ge b w.heap.size with h' | h'
  · exact h'
  · rw [Array.getElem?_eq_none h'] at h; cases h

/-- memory is made: nothing of what was there has turned -/
theorem RS.grow {g' : Gh} {w' : World} (r : RS B g σ a w) (hb : ∀ b, b < w.heap.size → g'.ow b = g.ow b ∧ w'.heap[b]? = w.heap[b]?) (ha : g'.ad = g.ad)
    (h1 : w'.os = w.os) (h2 : w'.tape = w.tape) (h3 : w'.output = w.output) (h4 : w.heap.size ≤ w'.heap.size) : RS B g' σ a w' := by
  have T : Turns kf0 (fun _ => false) g a w g' a w' := {
    blk := fun b hx _ => hb b (heap_lt hx)
    box := fun b c hx _ _ _ => hb b (heap_lt hx)
    hdr := fun q x _ hx => by
      cases q with
      | sl k i j => exact hx
      | bx b j =>
        simp only [hdr] at hx ⊢
        rw [ha]
        split at hx
        · rename_i ht
          have : (w.heap[(g.ad b).1]?).isSome = true := by
            cases e : w.heap[(g.ad b).1]? with
            | none => simp only [World.cell?, e] at hx; cases hx
            | some _ => rfl
          have hh := hb _ (heap_lt this)
          rw [if_pos (hh.1.trans ht)]
          simp only [World.cell?, hh.2]; exact hx
        · cases hx
    ad := fun b _ => by rw [ha] }
  have F : Fr B g' w' := by
    obtain ⟨f1, f2, f3, f4, f5, f6, f7⟩ := r.1.1
    refine ⟨h1.trans f1, h2.trans f2, h3.trans f3, Nat.le_trans f4 h4, fun b hlt ht => ?_, fun b k hlt ht => ?_, f7⟩
    · have := f5 b hlt ht
      have hh := hb b (Nat.lt_of_lt_of_le hlt f4)
      exact ⟨hh.1.trans this.1, hh.2.trans this.2⟩
    · obtain ⟨p1, p2, g1, arr0, arr, e, fr, g2, g3, g4⟩ := f6 b k hlt ht
      have hh := hb b (Nat.lt_of_lt_of_le hlt f4)
      exact ⟨p1, by rw [ha]; exact p2, hh.1.trans g1, arr0, arr, e, fr, g2, hh.2.trans g3, g4⟩
  have := RS.kill r T F r.2.1 rfl (fun _ => rfl)
  rwa [kill_no] at this
end ops
end Go.Proofs.YtfdmlccbfbiloaaGreatDoor.Vs
/- The calculus: own slices that move; boxes. -/
namespace Go.Proofs.YtfdmlccbfbiloaaGreatDoor.Vs
open Go
variable [Gl]
set_option linter.unusedSectionVars false

def Pl.beq : Pl → Pl → Bool
  | .sl k i j, .sl k' i' j' => Nat.beq k k' && (Nat.beq i i' && Nat.beq j j')
  | .bx b j, .bx b' j' => Nat.beq b b' && Nat.beq j j'
  | _, _ => false
theorem Pl.beq_iff {p q : Pl} : p.beq q = true ↔ p = q := by
  cases p <;> cases q <;> simp [Pl.beq]
def mlk : List (Pl × Pl) → Pl → Pl
  | [], q => q
  | (x, y) :: r, q => bif x.beq q then y else mlk r q
def isIn (q : Pl) : List (Pl × Pl) → Bool
  | [] => false
  | (x, _) :: r => x.beq q || isIn q r
theorem mlk_out {q : Pl} : ∀ {mp : List (Pl × Pl)}, isIn q mp = false → mlk mp q = q
  | [], _ => rfl
  | (x, y) :: r, h => by
    simp only [isIn, Bool.or_eq_false_iff] at h
    simp only [mlk, h.1, cond_false]
    exact mlk_out h.2
def retag (mp : List (Pl × Pl)) (g : Gh) : Gh := { g with ow := fun b => match g.ow b with | .pl q => .pl (mlk mp q) | t => t }
theorem retag_imm {mp : List (Pl × Pl)} {g : Gh} {b : Nat} : (retag mp g).ow b = .imm ↔ g.ow b = .imm := by
  simp only [retag]; split <;> simp_all
theorem retag_bor {mp : List (Pl × Pl)} {g : Gh} {b : Nat} : (retag mp g).ow b = .bor ↔ g.ow b = .bor := by
  simp only [retag]; split <;> simp_all
theorem retag_bx {mp : List (Pl × Pl)} {g : Gh} {b c : Nat} : (retag mp g).ow b = .bx c ↔ g.ow b = .bx c := by
  simp only [retag]; split <;> simp_all
theorem retag_pl {mp : List (Pl × Pl)} {g : Gh} {b : Nat} {q : Pl} (h : g.ow b = .pl q) : (retag mp g).ow b = .pl (mlk mp q) := by
  simp only [retag, h]
theorem OwP.move {mp : List (Pl × Pl)} {g : Gh} {w : World} {q : Pl} {s : Nat} {xs : List (List C)} {u : Value} (h : OwP g w q s xs u) : OwP (retag mp g) w (mlk mp q) s xs u := by
  obtain ⟨fp, h1, h2, h3⟩ := h
  exact ⟨fp, Ow.mono (fun b hb _ => ⟨retag_imm.2 hb, rfl⟩) _ _ fp (fun _ _ => rfl) h1, h2, fun b hb => retag_pl (h3 b hb)⟩

section ops
variable {P : Program} {B : Bs} {g : Gh} {σ : St} {a : Act} {w : World} {o : Oper} {d : Nat} {K : V → St → Prop} {Θ : Nat → Option TI}

theorem Fr.of {g' : Gh} {w' : World} (h : Fr B g w) (ha : ∀ k, B.n ≤ k → g'.ad k = g.ad k) (h1 : w'.os = w.os) (h2 : w'.tape = w.tape) (h3 : w'.output = w.output) (h4 : w.heap.size ≤ w'.heap.size)
    (hb : ∀ b, b < w.heap.size → (g.ow b = .imm ∨ g.ow b = .bor) → g'.ow b = g.ow b ∧ w'.heap[b]? = w.heap[b]?)
    (hx : ∀ b k, b < B.w0.heap.size → B.ow0 b = .bx k → g.ow b = .bx k → g'.ow b = .bx k ∧ ∀ arr e fr, w.heap[b]? = some (.cells arr e fr) → ∃ arr', w'.heap[b]? = some (.cells arr' e fr) ∧ arr'.size = arr.size ∧
      ∀ j, (j < (B.rng k).1 ∨ (B.rng k).2 ≤ j) → arr'[j]? = arr[j]?) : Fr B g' w' := by
  obtain ⟨f1, f2, f3, f4, f5, f6, f7⟩ := h
  refine ⟨h1.trans f1, h2.trans f2, h3.trans f3, Nat.le_trans f4 h4, fun b hlt ht => ?_, fun b k hlt ht => ?_, f7⟩
  · have := f5 b hlt ht
    have hh := hb b (Nat.lt_of_lt_of_le hlt f4) (by rw [this.1]; exact ht)
    exact ⟨hh.1.trans this.1, hh.2.trans this.2⟩
  · obtain ⟨p1, p2, g1, arr0, arr, e, fr, g2, g3, g4, g5⟩ := f6 b k hlt ht
    obtain ⟨k1, k2⟩ := hx b k hlt ht g1
    obtain ⟨arr', k3, k4, k5⟩ := k2 arr e fr g3
    exact ⟨p1, (ha k p1).trans p2, k1, arr0, arr', e, fr, g2, k3, k4.trans g4, fun j hj => (k5 j hj).trans (g5 j hj)⟩
theorem Fr.retag {mp : List (Pl × Pl)} (h : Fr B g w) : Fr B (retag mp g) w :=
  h.of (fun _ _ => rfl) rfl rfl rfl (Nat.le_refl _) (fun b _ ht => ⟨by rcases ht with ht | ht; rw [ht]; exact retag_imm.2 ht; rw [ht]; exact retag_bor.2 ht, rfl⟩)
    (fun b k _ _ hg => ⟨retag_bx.2 hg, fun arr e fr hw => ⟨arr, hw, rfl, fun _ _ => rfl⟩⟩)

/-! #### own slices of slots, on their way to new places -/
def absorb (σ : St) (p : Nat → Pl) : Nat → List V → Option (List V × List (Pl × Pl))
  | _, [] => some ([], [])
  | j, v :: r => match absorb σ p (j + 1) r with
    | none => none
    | some (vs, mp) => match v with
      | .hd (.sl k i' j') => match (σ.get k).comp i' j' with
        | some (.own s xs) => bif isIn (.sl k i' j') mp then none else some (.own s xs :: vs, (.sl k i' j', p j) :: mp)
        | some (.mu h s xs) => bif isIn (.sl k i' j') mp then none else some (.mu h s xs :: vs, (.sl k i' j', p j) :: mp)
        | _ => none
      | .agg _ | .tup _ | .own _ _ | .mu _ _ _ => none
      | v => some (v :: vs, mp)
/-- none of what stays leans on what goes -/
def cleanL (κ : KF) : List V → Bool
  | [] => true
  | v :: r => !(v.hps.any κ.h || v.cps.any κ.c || v.bxs1.any κ.b) && cleanL κ r

theorem absorb_sound (r : RS B g σ a w) (p : Nat → Pl) : ∀ (vs : List V) (us : List Value) (j : Nat) (vs' : List V) (mp : List (Pl × Pl)), absorb σ p j vs = some (vs', mp) → us.length = vs.length →
    (∀ (i : Nat) v u, vs[i]? = some v → us[i]? = some u → ∃ q, RC g a w q v u) →
    vs'.length = vs.length ∧ ∀ (i : Nat) v u, vs'[i]? = some v → us[i]? = some u → (v.free1 = true ∧ (∀ q, RC g a w q v u)) ∨ ∃ q, isOwn v = true ∧ RC g a w q v u ∧ isIn q mp = true ∧ mlk mp q = p (j + i)
  | [], us, j, vs', mp, h, _, _ => by
    simp only [absorb, Option.some.injEq, Prod.mk.injEq] at h
    obtain ⟨rfl, rfl⟩ := h
    exact ⟨rfl, fun i v u hv => by simp at hv⟩
  | v :: r', [], j, vs', mp, h, hl, _ => by simp at hl
  | v :: r', u0 :: us, j, vs', mp, h, hl, hr => by
    simp only [absorb] at h
    cases he : absorb σ p (j + 1) r' with
    | none => rw [he] at h; cases h
    | some x =>
      obtain ⟨vs1, mp1⟩ := x
      rw [he] at h
      simp only at h
      obtain ⟨i1, i2⟩ := absorb_sound r p r' us (j + 1) vs1 mp1 he (by simpa using hl) (fun i v u hv hu => hr (i + 1) v u (by simpa using hv) (by simpa using hu))
      obtain ⟨q0, hq0⟩ := hr 0 v u0 rfl rfl
      have keep : ∀ v', v'.free1 = true → v = v' → some (v' :: vs1, mp1) = some (vs', mp) → vs'.length = (v :: r').length ∧ ∀ (i : Nat) v u, vs'[i]? = some v → (u0 :: us)[i]? = some u → (v.free1 = true ∧ (∀ q, RC g a w q v u)) ∨ ∃ q, isOwn v = true ∧ RC g a w q v u ∧ isIn q mp = true ∧ mlk mp q = p (j + i) := by
        intro v' hf e h
        subst e
        simp only [Option.some.injEq, Prod.mk.injEq] at h
        obtain ⟨rfl, rfl⟩ := h
        refine ⟨by simp [i1], fun i v1 u hv hu => ?_⟩
        cases i with
        | zero =>
          simp only [List.getElem?_cons_zero, Option.some.injEq] at hv hu
          subst hv; subst hu
          exact .inl ⟨hf, fun q => RC.at_ hf hq0⟩
        | succ i =>
          have := i2 i v1 u (by simpa using hv) (by simpa using hu)
          rwa [show j + 1 + i = j + (i + 1) from by omega] at this
      split at h
      · rename_i k i' j'
        have one : ∀ v0, (σ.get k).comp i' j' = some v0 → isOwn v0 = true → v0.own? ≠ none → (bif isIn (.sl k i' j') mp1 then none else some (v0 :: vs1, (.sl k i' j', p j) :: mp1)) = some (vs', mp) →
            vs'.length = (V.hd (.sl k i' j') :: r').length ∧ ∀ (i : Nat) v u, vs'[i]? = some v → (u0 :: us)[i]? = some u → (v.free1 = true ∧ (∀ q, RC g a w q v u)) ∨ ∃ q, isOwn v = true ∧ RC g a w q v u ∧ isIn q mp = true ∧ mlk mp q = p (j + i) := by
          intro v0 hp hov hn h
          cases hin : isIn (.sl k i' j') mp1 with
          | true => simp only [hin, cond_true] at h; cases h
          | false =>
            simp only [hin, cond_false, Option.some.injEq, Prod.mk.injEq] at h
            obtain ⟨rfl, rfl⟩ := h
            refine ⟨by simp [i1], fun i v1 u hv hu => ?_⟩
            cases i with
            | zero =>
              simp only [List.getElem?_cons_zero, Option.some.injEq] at hv hu
              subst hv; subst hu
              obtain ⟨x, h1, h2⟩ := RT.comp rfl (r.2.2.2.1 k) hp
              have h1 := h1 hn
              simp only [RC] at hq0
              rw [hq0.1] at h1
              simp only [Option.some.injEq] at h1
              subst h1
              have hb : (Pl.sl k i' j').beq (.sl k i' j') = true := Pl.beq_iff.2 rfl
              exact .inr ⟨_, hov, h2, by simp [isIn, hb], by simp [mlk, hb]⟩
            | succ i =>
              have := i2 i v1 u (by simpa using hv) (by simpa using hu)
              rw [show j + 1 + i = j + (i + 1) from by omega] at this
              rcases this with h | ⟨q, e1, e2, e3, e4⟩
              · exact .inl h
              · refine .inr ⟨q, e1, e2, by simp [isIn, e3], ?_⟩
                have : (Pl.sl k i' j').beq q = false := by
                  cases hb : (Pl.sl k i' j').beq q with
                  | false => rfl
                  | true => rw [Pl.beq_iff] at hb; subst hb; rw [hin] at e3; cases e3
                simp only [mlk, this, cond_false]; exact e4
        split at h
        · rename_i s xs hp
          exact one _ hp rfl (by simp [V.own?]) h
        · rename_i h0 s xs hp
          exact one _ hp rfl (by simp [V.own?]) h
        · cases h
      · cases h
      · cases h
      · cases h
      · cases h
      · rename_i n1 n2 n3 n4 n5
        refine keep v ?_ rfl h
        cases v <;> first | rfl | exact absurd rfl (n2 _) | exact absurd rfl (n3 _) | exact absurd rfl (n4 _ _) | exact absurd rfl (n5 _ _ _)
theorem RC.ownMap {g' : Gh} {a' : Act} {w' : World} {q q' : Pl} {v : V} {u : Value} (hv : isOwn v = true) (h : RC g a w q v u) (hm : ∀ s xs, OwP g w q s xs u → OwP g' w' q' s xs u) : RC g' a' w' q' v u := by
  cases v with
  | own s xs => exact hm s xs h
  | mu z s xs => exact ⟨h.1, hm s xs h.2⟩
  | _ => cases hv
end ops
end Go.Proofs.YtfdmlccbfbiloaaGreatDoor.Vs
