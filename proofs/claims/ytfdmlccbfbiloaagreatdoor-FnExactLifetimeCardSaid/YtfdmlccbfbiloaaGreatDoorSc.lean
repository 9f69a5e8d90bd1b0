/- The program's Lifetime returns what the reference's Lifetime returns, for all arguments that the statement lets in (at most 2^20 letters and elements in all): no further condition. -/
import Derived.Test.YtfdmlccbfbiloaaGreatDoorSb
import Derived.Carry
import Derived.Test.YtfdmlccbfbiloaaGreatDoorTie
import Derived.Test.YtfdmlccbfbiloaaGreatDoorCards
import Derived.ProofKit
import Derived.OpenShut
import Derived.LaidMore
import Derived.Lay
import Derived.SevenTiedAt
import Derived.Stop.Joined
namespace Go.Proofs.YtfdmlccbfbiloaaGreatDoor
open Go Go.Proofs.YtfdmlccbfbiloaaGreatDoor.Vs Go.ChangeShapes Go.WideShapes Go.ChangeAt Go.RowKit
/- gl0: the instance of Dz -/
theorem own : ownKnob Tryz.prog.godebug = none := by kernel_rfl
theorem laidOut : laidOutB Tryz.prog = true := by kernel_rfl
set_option maxRecDepth 100000 in
theorem lifted (os : Os) (started : os.Started) (H : Type) (enc : TypeId × Value → H) :
    ReturnsInHanded {} Tryz.checked os 8 .any (fun w args => (Rows.fnExactLifetimeSpec.pre enc Tryz.prog Tryz.f8 Rows.fnExactLifetimeRow.domain false w args ∧ laidMetH Tryz.prog Rows.fnExactLifetimeRow.laid w) ∧ sizedMet enc Tryz.prog Tryz.f8 (OpenSpec.ofChange Rows.fnExactLifetimeSpec) false w args)
      (Rows.fnExactLifetimeSpec.post enc Tryz.prog Tryz.f8 false true false false) := by
  refine handed_shaped (C := Tryz.checked) (X := fun w _ => laidMetH Tryz.prog Rows.fnExactLifetimeRow.laid w) (fun _ _ _ hh h => h.of_heap hh) own started (by kernel_rfl) Tryz.func8
    (ChangeSpec.witness_shaped (enc := enc) (C := Tryz.checked) (os := os) (X := fun w _ => laidMetH Tryz.prog Rows.fnExactLifetimeRow.laid w) false (World.laidAll Tryz.prog os Rows.fnExactLifetimeRow.laid) #[.agg #[.int .i64 0, .slice none 0 0, .string ⟨⟨[]⟩⟩]] 8 (World.laidAll_os _ _ _)
      (World.shaped_of_ZipB (by kernel_rfl) (by kernel_rfl)) (by kernel_rfl) (by kernel_rfl) (by kernel_rfl)
      (by rw [MakeChecks.laidMetH_plain _ _ _ (by kernel_rfl)]; exact laidMet_laidAll _ (by kernel_rfl) (by kernel_rfl))) ?_
  intro W base args ds gs before hsh hlaid hval0 hW hwt
  rw [MakeChecks.laidMetH_plain _ _ _ (by kernel_rfl)] at hlaid
  have hGOK := gok0 (tab_of hlaid) (max_of hsh)
  have hval : ∀ (j : Nat) t v, Tryz.f8.params[j]? = some t → args[j]? = some v → Value.okWide Tryz.prog W .any base t v := hval0
  have hW' := hW
  obtain ⟨p, q, hA0, hV, rfl, _, _⟩ := hW
  have hA : DataW.TrodAll enc Tryz.prog W 0 (fun _ => true) true Tryz.f8.params.toList args.toList ds p := hA0
  rw [Tryz.params8] at hA hval
  obtain ⟨v0, d0, rfl, rfl, h0⟩ := trodAll_one hA
  obtain ⟨rfl, rfl⟩ := trodVars_none hV
  obtain ⟨c0, t0, r0⟩ := arg_open hΘ 8 (by decide) (hval 0 _ v0 rfl rfl) h0 (weights_arg (ts := Tryz.f8.params.toList) hwt (j := 0) rfl rfl)
  obtain ⟨_, _, rfl, ⟨st2, rfl, _⟩, _, _, rfl, ⟨ys2, rfl, hl3, hx3⟩, _, _, rfl, ⟨bd2, rfl, hb2⟩, rfl⟩ := (t0 : TyF (Ty Θ 7) [(0, 2), (1, 24), (2, 9)] c0)
  obtain ⟨l3, rfl, z3⟩ := fd_of hx3
  have hf : ∀ l : List Fd, (l.map encF).length * byO Θ 82 ≤ reachBytes → l.length ≤ 140737488355328 := by
    intro l hl
    have : byO Θ 82 = 32 := rfl
    rw [this, List.length_map] at hl
    simp only [reachBytes] at hl
    omega
  refine (VC.law (lifetime_law ⟨st2, l3, bd2⟩ ⟨⟨hf _ hl3, z3⟩, Nat.le_trans hb2 (by decide)⟩) (args := [v0]) rfl (fun i v u hv hu => ?_) hGOK).mono ?_
  · match i with
    | 0 => simp at hv hu; subst hv; subst hu; exact r0 0
    | i + 1 => simp at hv
  · rintro e W' ⟨rfl, hB⟩
    exact ⟨_, rfl, law_post rfl hW' rfl rfl Tryz.underlying4 laidOut (by
      have hall : (Tryz.f8.params.toList.all fun t => Tryz.prog.readableRec t && decide (t < Tryz.prog.types.size)) = true := by kernel_rfl
      intro t ht
      have := List.all_eq_true.1 hall t ht
      simp only [Bool.and_eq_true, decide_eq_true_eq] at this
      exact this) hB⟩

theorem holds : Rows.FnExactLifetimeSaid :=
  OpenClaim.holds_of_wide 8 Tryz.f8 rfl rfl rfl rfl rfl rfl rfl ⟨rfl, rfl, rfl, rfl, rfl⟩ rfl rfl rfl rfl rfl (by kernel_rfl) Tryz.func8 (by kernel_rfl)
    (of_decide_eq_true (by kernel_rfl)) (by unfold Func.isWrapper; first | (rw [if_pos (by decide +kernel)]; kernel_rfl) | (rw [if_neg (by decide +kernel)]; exact ⟨rfl, rfl⟩))
    (fun os started H enc _ => lifted os started H enc)
theorem card_holds : Rows.FnExactLifetimeCardSaid :=
  Claim7.holds_tied_plain_at .later [] [.data, .data, .data, .data, .sentinel, .sentinel, .pinned] true (true, "39e4b7a76cf757a680855b983244fc7900ad7f23b85a96f75f0a4d1c0bd4472e") true holds (fun _ h => by cases h) (by kernel_rfl) (fun _ h => by cases h) fnExactLifetime_row_tie rfl ⟨rfl, rfl⟩ (by kernel_rfl) rfl
    (fun f fn hf hfn => by
      obtain rfl : f = 8 := Option.some.inj ((show Tryz.prog.funcNamed "loop.example/g00207/laws.FnExactLifetime" = some 8 by kernel_rfl).symm.trans hf) |>.symm
      obtain rfl : fn = Tryz.f8 := (Option.some.inj (Tryz.func8.symm.trans hfn)).symm
      exact ⟨by kernel_rfl, fun j t ht => by
        have hm : t ∈ Tryz.f8.params.toList := by
          have := Array.mem_of_getElem? ht
          simpa using this
        have hall : (Tryz.f8.params.toList.all fun u => !Tryz.prog.wantsStandIn u) = true := by kernel_rfl
        exact (show Tryz.prog.wantsStandIn t = false by simpa using List.all_eq_true.1 hall t hm)⟩)
    (by kernel_rfl)
#print axioms card_holds
end Go.Proofs.YtfdmlccbfbiloaaGreatDoor
