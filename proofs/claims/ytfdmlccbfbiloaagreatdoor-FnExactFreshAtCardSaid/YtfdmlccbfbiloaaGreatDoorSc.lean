/- The program's FreshAt returns what the reference's FreshAt returns, for all arguments that the statement lets in (at most 2^20 letters and elements in all): no further condition. -/
import Derived.Test.YtfdmlccbfbiloaaGreatDoorSb
import Derived.Carry
import Derived.Test.YtfdmlccbfbiloaaGreatDoorTie
import Derived.Test.YtfdmlccbfbiloaaGreatDoorCards
import Derived.ProofKit
import Derived.OpenShut
import Derived.LaidMore
import Derived.Lay
import Derived.SevenTiedAt
import Derived.Stop.Joined
namespace Go.Proofs.YtfdmlccbfbiloaaGreatDoor
open Go Go.Proofs.YtfdmlccbfbiloaaGreatDoor.Vs Go.ChangeShapes Go.WideShapes Go.ChangeAt Go.RowKit
/- gl0: the instance of Dz -/
theorem own : ownKnob Tryz.prog.godebug = none := by kernel_rfl
theorem laidOut : laidOutB Tryz.prog = true := by kernel_rfl
set_option maxRecDepth 100000 in
theorem lifted (os : Os) (started : os.Started) (H : Type) (enc : TypeId × Value → H) :
    ReturnsInHanded {} Tryz.checked os 9 .any (fun w args => (Rows.fnExactFreshAtSpec.pre enc Tryz.prog Tryz.f9 Rows.fnExactFreshAtRow.domain false w args ∧ laidMetH Tryz.prog Rows.fnExactFreshAtRow.laid w) ∧ sizedMet enc Tryz.prog Tryz.f9 (OpenSpec.ofChange Rows.fnExactFreshAtSpec) false w args)
      (Rows.fnExactFreshAtSpec.post enc Tryz.prog Tryz.f9 false true false false) := by
  refine handed_shaped (C := Tryz.checked) (X := fun w _ => laidMetH Tryz.prog Rows.fnExactFreshAtRow.laid w) (fun _ _ _ hh h => h.of_heap hh) own started (by kernel_rfl) Tryz.func9
    (ChangeSpec.witness_shaped (enc := enc) (C := Tryz.checked) (os := os) (X := fun w _ => laidMetH Tryz.prog Rows.fnExactFreshAtRow.laid w) false (World.laidAll Tryz.prog os Rows.fnExactFreshAtRow.laid) #[.agg #[.string ⟨⟨[]⟩⟩, .slice none 0 0, .int .i64 0, .slice none 0 0, .string ⟨⟨[]⟩⟩, .int .i64 0, .int .i64 0, .int .i64 0], .int .i64 0] 8 (World.laidAll_os _ _ _)
      (World.shaped_of_ZipB (by kernel_rfl) (by kernel_rfl)) (by kernel_rfl) (by kernel_rfl) (by kernel_rfl)
      (by rw [MakeChecks.laidMetH_plain _ _ _ (by kernel_rfl)]; exact laidMet_laidAll _ (by kernel_rfl) (by kernel_rfl))) ?_
  intro W base args ds gs before hsh hlaid hval0 hW hwt
  rw [MakeChecks.laidMetH_plain _ _ _ (by kernel_rfl)] at hlaid
  have hGOK := gok0 (tab_of hlaid) (max_of hsh)
  have hval : ∀ (j : Nat) t v, Tryz.f9.params[j]? = some t → args[j]? = some v → Value.okWide Tryz.prog W .any base t v := hval0
  have hW' := hW
  obtain ⟨p, q, hA0, hV, rfl, _, _⟩ := hW
  have hA : DataW.TrodAll enc Tryz.prog W 0 (fun _ => true) true Tryz.f9.params.toList args.toList ds p := hA0
  rw [Tryz.params9] at hA hval
  obtain ⟨v0, v1, d0, d1, p0, p1, rfl, rfl, rfl, h0, h1⟩ := trodAll_two hA
  obtain ⟨rfl, rfl⟩ := trodVars_none hV
  obtain ⟨c0, t0, r0⟩ := arg_open hΘ 8 (by decide) (hval 0 _ v0 rfl rfl) h0 (weights_arg (ts := Tryz.f9.params.toList) hwt (j := 0) rfl rfl)
  obtain ⟨c1, t1, r1⟩ := arg_open hΘ 8 (by decide) (hval 1 _ v1 rfl rfl) h1 (weights_arg (ts := Tryz.f9.params.toList) hwt (j := 1) rfl rfl)
  obtain ⟨_, _, rfl, ⟨key, rfl, hk⟩, _, _, rfl, ⟨xs, rfl, hl1, hx1⟩, _, _, rfl, ⟨_, _, rfl, ⟨st1, rfl, _⟩, _, _, rfl, ⟨ys1, rfl, hl2, hx2⟩, _, _, rfl, ⟨bd1, rfl, hb1⟩, rfl⟩, _, _, rfl, ⟨ak, rfl, _⟩, _, _, rfl, ⟨gt, rfl, _⟩, _, _, rfl, ⟨ep, rfl, _⟩, rfl⟩ := (t0 : TyF (Ty Θ 7) [(0, 9), (1, 24), (2, 26), (5, 2), (6, 2), (7, 2)] c0)
  obtain ⟨nw, rfl, _⟩ := t1
  obtain ⟨l1, rfl, z1⟩ := fd_of hx1
  obtain ⟨l2, rfl, z2⟩ := fd_of hx2
  have hf : ∀ l : List Fd, (l.map encF).length * byO Θ 82 ≤ reachBytes → l.length ≤ 140737488355328 := by
    intro l hl
    have : byO Θ 82 = 32 := rfl
    rw [this, List.length_map] at hl
    simp only [reachBytes] at hl
    omega
  refine (VC.law (freshAt_law ⟨key, l1, ⟨st1, l2, bd1⟩, ak, gt, ep⟩ nw ⟨Nat.le_trans hk (by decide), ⟨hf _ hl1, z1⟩, ⟨hf _ hl2, z2⟩, Nat.le_trans hb1 (by decide)⟩) (args := [v0, v1]) rfl (fun i v u hv hu => ?_) hGOK).mono ?_
  · match i with
    | 0 => simp at hv hu; subst hv; subst hu; exact r0 0
    | 1 => simp at hv hu; subst hv; subst hu; exact r1 1
    | i + 2 => simp at hv
  · rintro e W' ⟨rfl, hB⟩
    exact ⟨_, rfl, law_post rfl hW' rfl rfl Tryz.underlying4 laidOut (by
      have hall : (Tryz.f9.params.toList.all fun t => Tryz.prog.readableRec t && decide (t < Tryz.prog.types.size)) = true := by kernel_rfl
      intro t ht
      have := List.all_eq_true.1 hall t ht
      simp only [Bool.and_eq_true, decide_eq_true_eq] at this
      exact this) hB⟩

theorem holds : Rows.FnExactFreshAtSaid :=
  OpenClaim.holds_of_wide 9 Tryz.f9 rfl rfl rfl rfl rfl rfl rfl ⟨rfl, rfl, rfl, rfl, rfl⟩ rfl rfl rfl rfl rfl (by kernel_rfl) Tryz.func9 (by kernel_rfl)
    (of_decide_eq_true (by kernel_rfl)) (by unfold Func.isWrapper; first | (rw [if_pos (by decide +kernel)]; kernel_rfl) | (rw [if_neg (by decide +kernel)]; exact ⟨rfl, rfl⟩))
    (fun os started H enc _ => lifted os started H enc)
theorem card_holds : Rows.FnExactFreshAtCardSaid :=
  Claim7.holds_tied_plain_at .later [] [.data, .data, .data, .data, .sentinel, .sentinel, .pinned] true (true, "39e4b7a76cf757a680855b983244fc7900ad7f23b85a96f75f0a4d1c0bd4472e") true holds (fun _ h => by cases h) (by kernel_rfl) (fun _ h => by cases h) fnExactFreshAt_row_tie rfl ⟨rfl, rfl⟩ (by kernel_rfl) rfl
    (fun f fn hf hfn => by
      obtain rfl : f = 9 := Option.some.inj ((show Tryz.prog.funcNamed "loop.example/g00207/laws.FnExactFreshAt" = some 9 by kernel_rfl).symm.trans hf) |>.symm
      obtain rfl : fn = Tryz.f9 := (Option.some.inj (Tryz.func9.symm.trans hfn)).symm
      exact ⟨by kernel_rfl, fun j t ht => by
        have hm : t ∈ Tryz.f9.params.toList := by
          have := Array.mem_of_getElem? ht
          simpa using this
        have hall : (Tryz.f9.params.toList.all fun u => !Tryz.prog.wantsStandIn u) = true := by kernel_rfl
        exact (show Tryz.prog.wantsStandIn t = false by simpa using List.all_eq_true.1 hall t hm)⟩)
    (by kernel_rfl)
#print axioms card_holds
end Go.Proofs.YtfdmlccbfbiloaaGreatDoor
