/- The program's Renewed returns what the reference's returns, for all arguments. -/
import Derived.Test.YteihhmonnbeekaaDoorSb
import Derived.Carry
import Derived.Test.YteihhmonnbeekaaDoorTie
import Derived.Test.YteihhmonnbeekaaDoorCards
import Derived.ProofKit
import Derived.OpenShut
import Derived.LaidMore
import Derived.Lay
import Derived.SevenTiedAt
import Derived.Stop.Joined
namespace Go.Proofs.YteihhmonnbeekaaDoor
open Go Go.Proofs.YteihhmonnbeekaaDoor.Vs Go.ChangeShapes Go.WideShapes Go.ChangeAt Go.RowKit
theorem own : ownKnob Tryd.prog.godebug = none := by kernel_rfl
theorem laidOut : laidOutB Tryd.prog = true := by kernel_rfl
set_option maxRecDepth 100000 in
theorem lifted (os : Os) (started : os.Started) (H : Type) (enc : TypeId × Value → H) :
    ReturnsInHanded {} Tryd.checked os 4 .any (fun w args => (Rows.fnExactRenewedSpec.pre enc Tryd.prog Tryd.f4 Rows.fnExactRenewedRow.domain false w args ∧ laidMetH Tryd.prog Rows.fnExactRenewedRow.laid w) ∧ sizedMet enc Tryd.prog Tryd.f4 (OpenSpec.ofChange Rows.fnExactRenewedSpec) false w args)
      (Rows.fnExactRenewedSpec.post enc Tryd.prog Tryd.f4 false true false false) := by
  refine returnsInHanded_of_change_and (C := Tryd.checked) (X := fun w _ => laidMetH Tryd.prog Rows.fnExactRenewedRow.laid w) (fun _ _ _ hh h => h.of_heap hh) own started (by kernel_rfl) Tryd.func4
    (ChangeSpec.witness_shaped (enc := enc) (C := Tryd.checked) (os := os) (X := fun w _ => laidMetH Tryd.prog Rows.fnExactRenewedRow.laid w) false (World.laidAll Tryd.prog os Rows.fnExactRenewedRow.laid) #[.agg #[.string ⟨⟨[]⟩⟩, .slice none 0 0, .int .i64 0, .slice none 0 0, .string ⟨⟨[]⟩⟩, .int .i64 0, .int .i64 0, .int .i64 0], .agg #[.int .i64 0, .slice none 0 0, .string ⟨⟨[]⟩⟩], .int .i64 0, .int .i64 0] 8 (World.laidAll_os _ _ _)
      (World.shaped_of_ZipB (by kernel_rfl) (by kernel_rfl)) (by kernel_rfl) (by kernel_rfl) (by kernel_rfl)
      (by rw [MakeChecks.laidMetH_plain _ _ _ (by kernel_rfl)]; exact laidMet_laidAll _ (by kernel_rfl) (by kernel_rfl))) ?_
  intro W base args ds gs before hval0 hW hlaid hwt _ _
  have hval : ∀ (j : Nat) t v, Tryd.f4.params[j]? = some t → args[j]? = some v → Value.okWide Tryd.prog W .any base t v := hval0
  have hW' := hW
  obtain ⟨p, q, hA0, hV, rfl, _, _⟩ := hW
  have hA : DataW.TrodAll enc Tryd.prog W 0 (fun _ => true) true Tryd.f4.params.toList args.toList ds p := hA0
  rw [Tryd.params4] at hA hval
  obtain ⟨v0, v1, v2, v3, d0, d1, d2, d3, p0, p1, p2, p3, rfl, rfl, rfl, h0, h1, h2, h3⟩ := trodAll_four hA
  obtain ⟨rfl, rfl⟩ := trodVars_none hV
  obtain ⟨c0, t0, r0⟩ := arg_open hΘ 8 (by decide) (hval 0 _ v0 rfl rfl) h0 (weights_arg (ts := Tryd.f4.params.toList) hwt (j := 0) rfl rfl)
  obtain ⟨c1, t1, r1⟩ := arg_open hΘ 8 (by decide) (hval 1 _ v1 rfl rfl) h1 (weights_arg (ts := Tryd.f4.params.toList) hwt (j := 1) rfl rfl)
  obtain ⟨c2, t2, r2⟩ := arg_open hΘ 8 (by decide) (hval 2 _ v2 rfl rfl) h2 (weights_arg (ts := Tryd.f4.params.toList) hwt (j := 2) rfl rfl)
  obtain ⟨c3, t3, r3⟩ := arg_open hΘ 8 (by decide) (hval 3 _ v3 rfl rfl) h3 (weights_arg (ts := Tryd.f4.params.toList) hwt (j := 3) rfl rfl)
  obtain ⟨_, _, rfl, ⟨key, rfl, hk⟩, _, _, rfl, ⟨xs, rfl, hl1, hx1⟩, _, _, rfl, ⟨_, _, rfl, ⟨st1, rfl, _⟩, _, _, rfl, ⟨ys1, rfl, hl2, hx2⟩, _, _, rfl, ⟨bd1, rfl, hb1⟩, rfl⟩, _, _, rfl, ⟨ak, rfl, _⟩, _, _, rfl, ⟨gt, rfl, _⟩, _, _, rfl, ⟨ep, rfl, _⟩, rfl⟩ := (t0 : TyF (Ty Θ 7) [(0, 9), (1, 22), (2, 31), (5, 2), (6, 2), (7, 2)] c0)
  obtain ⟨_, _, rfl, ⟨st2, rfl, _⟩, _, _, rfl, ⟨ys2, rfl, hl3, hx3⟩, _, _, rfl, ⟨bd2, rfl, hb2⟩, rfl⟩ := (t1 : TyF (Ty Θ 7) [(0, 2), (1, 22), (2, 9)] c1)
  obtain ⟨a, rfl, _⟩ := t2
  obtain ⟨g, rfl, _⟩ := t3
  obtain ⟨l1, rfl, z1⟩ := fd_of hx1
  obtain ⟨l2, rfl, z2⟩ := fd_of hx2
  obtain ⟨l3, rfl, z3⟩ := fd_of hx3
  have hf : ∀ l : List Fd, (l.map encF).length * byO Θ 66 ≤ reachBytes → l.length ≤ 140737488355328 := by
    intro l hl
    have : byO Θ 66 = 32 := rfl
    rw [this, List.length_map] at hl
    simp only [reachBytes] at hl
    omega
  refine (VC.law (renewed_law ⟨key, l1, ⟨st1, l2, bd1⟩, ak, gt, ep⟩ ⟨st2, l3, bd2⟩ a g ⟨Nat.le_trans hk (by decide), ⟨hf _ hl1, z1⟩, ⟨hf _ hl2, z2⟩, Nat.le_trans hb1 (by decide)⟩ ⟨⟨hf _ hl3, z3⟩, Nat.le_trans hb2 (by decide)⟩) (args := [v0, v1, v2, v3]) rfl (fun i v u hv hu => ?_)).mono ?_
  · match i with
    | 0 => simp at hv hu; subst hv; subst hu; exact r0 0
    | 1 => simp at hv hu; subst hv; subst hu; exact r1 1
    | 2 => simp at hv hu; subst hv; subst hu; exact r2 2
    | 3 => simp at hv hu; subst hv; subst hu; exact r3 3
    | i + 4 => simp at hv
  · rintro e W' ⟨rfl, hB⟩
    exact ⟨_, rfl, law_post rfl hW' rfl rfl Tryd.underlying4 laidOut (by
      have hall : (Tryd.f4.params.toList.all fun t => Tryd.prog.readableRec t && decide (t < Tryd.prog.types.size)) = true := by kernel_rfl
      intro t ht
      have := List.all_eq_true.1 hall t ht
      simp only [Bool.and_eq_true, decide_eq_true_eq] at this
      exact this) hB⟩

theorem holds : Rows.FnExactRenewedSaid :=
  OpenClaim.holds_of_wide 4 Tryd.f4 rfl rfl rfl rfl rfl rfl rfl ⟨rfl, rfl, rfl, rfl, rfl⟩ rfl rfl rfl rfl rfl (by kernel_rfl) Tryd.func4 (by kernel_rfl)
    (of_decide_eq_true (by kernel_rfl)) (by unfold Func.isWrapper; first | (rw [if_pos (by decide +kernel)]; kernel_rfl) | (rw [if_neg (by decide +kernel)]; exact ⟨rfl, rfl⟩))
    (fun os started H enc _ => lifted os started H enc)
theorem card_holds : Rows.FnExactRenewedCardSaid :=
  Claim7.holds_tied_plain_at .later [] [.data, .pinned] true (true, "ba3df161cecd5207ed74e999e8ecd9ef25a203833941ac534ce13e5764e766cb") true holds (fun _ h => by cases h) (by kernel_rfl) (fun _ h => by cases h) fnExactRenewed_row_tie rfl ⟨rfl, rfl⟩ (by kernel_rfl) rfl
    (fun f fn hf hfn => by
      obtain rfl : f = 4 := Option.some.inj ((show Tryd.prog.funcNamed "loop.example/g00207/laws.FnExactRenewed" = some 4 by kernel_rfl).symm.trans hf) |>.symm
      obtain rfl : fn = Tryd.f4 := (Option.some.inj (Tryd.func4.symm.trans hfn)).symm
      exact ⟨by kernel_rfl, fun j t ht => by
        have hm : t ∈ Tryd.f4.params.toList := by
          have := Array.mem_of_getElem? ht
          simpa using this
        have hall : (Tryd.f4.params.toList.all fun u => !Tryd.prog.wantsStandIn u) = true := by kernel_rfl
        exact (show Tryd.prog.wantsStandIn t = false by simpa using List.all_eq_true.1 hall t hm)⟩)
    (by kernel_rfl)
#print axioms card_holds
end Go.Proofs.YteihhmonnbeekaaDoor
