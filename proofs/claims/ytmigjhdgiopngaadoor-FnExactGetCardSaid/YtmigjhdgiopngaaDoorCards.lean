/-
  DERIVED. GIVEN WITH THE SEED: THE CARDS: each row of YtmigjhdgiopngaaDoorRows.lean that lists a variable, with what it lists TIED to the program's text (the seventh form; the later family's looks); each row that meets fmt, with fmt's text TOLD by the authors' own Lean function (tested against real Go, not proved from fmt's source: count such statements apart). THE CARD IS WHAT COUNTS. Prove the row's statement (the work); the ties are given (YtmigjhdgiopngaaDoorTie.lean); close each card by the builder's one call (the guide's Derived/Test/ToyasCard.lean, 'card_holds'). Laid BY PROGRAM, IN A SANDBOX (cutbox-door.mjs). By AI agents, Wed Nov 11 2026. No macro, syntax, notation, axiom, sorry.
-/
import Derived.Test.YtmigjhdgiopngaaDoorRows
import GoSem.ClaimSeven
namespace Go.Proofs.YtmigjhdgiopngaaDoor
namespace Rows

/-- THE TIED CARD OF 'laws.FnExactGet'. -/
def fnExactGetCard : Claim7 := { stood := { row := fnExactGetRow, standIns := [], harness := (true, "82eb1a3967f7b52205f26bcecd2597c3413bcd71ecf24786568db72eb3032a93"), looks := false }, kinds := [], alts := [], laidByText := true, laidKinds := [.data, .pinned], laidTests := true, laidLooks := .later }
def FnExactGetCardSaid : Prop := Claim7.holds Tryd.pinned (.plain (OpenSpec.ofChange fnExactGetSpec)) fnExactGetCard

/-- THE SECOND FORM's CARD OF 'laws.FnExactGet'. -/
def fnExactGetUptoCard : Claim7 := { stood := { row := fnExactGetUptoRow, standIns := [], harness := (true, "82eb1a3967f7b52205f26bcecd2597c3413bcd71ecf24786568db72eb3032a93"), looks := false }, kinds := [], alts := [], laidByText := true, laidKinds := [.data, .pinned], laidTests := true, laidLooks := .later }
def FnExactGetUptoCardSaid : Prop := Claim7.holds Tryd.pinned (.plain (OpenSpec.upto fnExactGetSpec)) fnExactGetUptoCard
end Rows
end Go.Proofs.YtmigjhdgiopngaaDoor
