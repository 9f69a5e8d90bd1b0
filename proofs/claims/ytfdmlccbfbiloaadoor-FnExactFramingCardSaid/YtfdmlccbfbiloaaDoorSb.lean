/- The program's Framing returns what the reference's Framing returns, for all lists of fields that the statement lets in (at most 2^20 letters and elements in all): no further condition. -/
import Derived.Test.YtfdmlccbfbiloaaDoorSa
import Derived.Carry
import Derived.Test.YtfdmlccbfbiloaaDoorTie
import Derived.Test.YtfdmlccbfbiloaaDoorCards
import Derived.ProofKit
import Derived.OpenShut
import Derived.LaidMore
import Derived.Lay
import Derived.SevenTiedAt
import Derived.Stop.Joined
namespace Go.Proofs.YtfdmlccbfbiloaaDoor
open Go Go.Proofs.YtfdmlccbfbiloaaDoor.Vs Go.ChangeShapes Go.WideShapes Go.ChangeAt Go.RowKit
instance gl0 : Gl := ⟨[]⟩
theorem own : ownKnob Tryd.prog.godebug = none := by kernel_rfl
theorem laidOut : laidOutB Tryd.prog = true := by kernel_rfl
set_option maxRecDepth 100000 in
theorem lifted (os : Os) (started : os.Started) (H : Type) (enc : TypeId × Value → H) :
    ReturnsInHanded {} Tryd.checked os 3 .any (fun w args => (Rows.fnExactFramingSpec.pre enc Tryd.prog Tryd.f3 Rows.fnExactFramingRow.domain false w args ∧ laidMetH Tryd.prog Rows.fnExactFramingRow.laid w) ∧ sizedMet enc Tryd.prog Tryd.f3 (OpenSpec.ofChange Rows.fnExactFramingSpec) false w args)
      (Rows.fnExactFramingSpec.post enc Tryd.prog Tryd.f3 false true false false) := by
  refine returnsInHanded_of_change_and (C := Tryd.checked) (X := fun w _ => laidMetH Tryd.prog Rows.fnExactFramingRow.laid w) (fun _ _ _ hh h => h.of_heap hh) own started (by kernel_rfl) Tryd.func3
    (ChangeSpec.witness_shaped (enc := enc) (C := Tryd.checked) (os := os) (X := fun w _ => laidMetH Tryd.prog Rows.fnExactFramingRow.laid w) false (World.laidAll Tryd.prog os Rows.fnExactFramingRow.laid) #[.slice none 0 0] 8 (World.laidAll_os _ _ _)
      (World.shaped_of_ZipB (by kernel_rfl) (by kernel_rfl)) (by kernel_rfl) (by kernel_rfl) (by kernel_rfl)
      (by rw [MakeChecks.laidMetH_plain _ _ _ (by kernel_rfl)]; exact laidMet_laidAll _ (by kernel_rfl) (by kernel_rfl))) ?_
  intro W base args ds gs before hval0 hW hlaid hwt _ _
  have hval : ∀ (j : Nat) t v, Tryd.f3.params[j]? = some t → args[j]? = some v → Value.okWide Tryd.prog W .any base t v := hval0
  have hW' := hW
  obtain ⟨p, q, hA0, hV, rfl, _, _⟩ := hW
  have hA : DataW.TrodAll enc Tryd.prog W 0 (fun _ => true) true Tryd.f3.params.toList args.toList ds p := hA0
  rw [Tryd.params3] at hA hval
  obtain ⟨v0, d0, rfl, rfl, h0⟩ := trodAll_one hA
  obtain ⟨rfl, rfl⟩ := trodVars_none hV
  obtain ⟨c0, t0, r0⟩ := arg_open hΘ 8 (by decide) (hval 0 _ v0 rfl rfl) h0 (weights_arg (ts := Tryd.f3.params.toList) hwt (j := 0) rfl rfl)
  obtain ⟨xs, rfl, hl1, hx1⟩ := t0
  obtain ⟨l1, rfl, z1⟩ := fd_of hx1
  have hf : ∀ l : List Fd, (l.map encF).length * byO Θ 32 ≤ reachBytes → l.length ≤ 140737488355328 := by
    intro l hl
    have : byO Θ 32 = 32 := rfl
    rw [this, List.length_map] at hl
    simp only [reachBytes] at hl
    omega
  refine (VC.law (framing_law l1 ⟨hf _ hl1, z1⟩) (args := [v0]) rfl (fun i v u hv hu => ?_) (gok_none rfl)).mono ?_
  · match i with
    | 0 => simp at hv hu; subst hv; subst hu; exact r0 0
    | i + 1 => simp at hv
  · rintro e W' ⟨rfl, hB⟩
    exact ⟨_, rfl, law_post rfl hW' rfl rfl Tryd.underlying4 laidOut (by
      have hall : (Tryd.f3.params.toList.all fun t => Tryd.prog.readableRec t && decide (t < Tryd.prog.types.size)) = true := by kernel_rfl
      intro t ht
      have := List.all_eq_true.1 hall t ht
      simp only [Bool.and_eq_true, decide_eq_true_eq] at this
      exact this) hB⟩

theorem holds : Rows.FnExactFramingSaid :=
  OpenClaim.holds_of_wide 3 Tryd.f3 rfl rfl rfl rfl rfl rfl rfl ⟨rfl, rfl, rfl, rfl, rfl⟩ rfl rfl rfl rfl rfl (by kernel_rfl) Tryd.func3 (by kernel_rfl)
    (of_decide_eq_true (by kernel_rfl)) (by unfold Func.isWrapper; first | (rw [if_pos (by decide +kernel)]; kernel_rfl) | (rw [if_neg (by decide +kernel)]; exact ⟨rfl, rfl⟩))
    (fun os started H enc _ => lifted os started H enc)
theorem card_holds : Rows.FnExactFramingCardSaid :=
  Claim7.holds_tied_plain_at .later [] [.data, .data, .data, .data, .sentinel, .sentinel, .pinned] true (true, "3bf1e3800eba62a46eaab2c458fdd44fc4e5ac37c1a0662ec9cf93bc23c1f979") true holds (fun _ h => by cases h) (by kernel_rfl) (fun _ h => by cases h) fnExactFraming_row_tie rfl ⟨rfl, rfl⟩ (by kernel_rfl) rfl
    (fun f fn hf hfn => by
      obtain rfl : f = 3 := Option.some.inj ((show Tryd.prog.funcNamed "loop.example/g00207/laws.FnExactFraming" = some 3 by kernel_rfl).symm.trans hf) |>.symm
      obtain rfl : fn = Tryd.f3 := (Option.some.inj (Tryd.func3.symm.trans hfn)).symm
      exact ⟨by kernel_rfl, fun j t ht => by
        have hm : t ∈ Tryd.f3.params.toList := by
          have := Array.mem_of_getElem? ht
          simpa using this
        have hall : (Tryd.f3.params.toList.all fun u => !Tryd.prog.wantsStandIn u) = true := by kernel_rfl
        exact (show Tryd.prog.wantsStandIn t = false by simpa using List.all_eq_true.1 hall t hm)⟩)
    (by kernel_rfl)
#print axioms card_holds
end Go.Proofs.YtfdmlccbfbiloaaDoor
