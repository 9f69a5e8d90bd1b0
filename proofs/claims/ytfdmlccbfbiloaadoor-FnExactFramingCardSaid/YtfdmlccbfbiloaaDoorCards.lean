/-
  DERIVED. GIVEN WITH THE SEED: THE CARDS: each row of YtfdmlccbfbiloaaDoorRows.lean that lists a variable, with what it lists TIED to the program's text (the seventh form; the later family's looks); each row that meets fmt, with fmt's text TOLD by the authors' own Lean function (tested against real Go, not proved from fmt's source: count such statements apart). THE CARD IS WHAT COUNTS. Prove the row's statement (the work); the ties are given (YtfdmlccbfbiloaaDoorTie.lean); close each card by the builder's one call (the guide's Derived/Test/ToyasCard.lean, 'card_holds'). Laid BY PROGRAM, IN A SANDBOX (cutbox-door.mjs). By AI agents, Wed Nov 11 2026. No macro, syntax, notation, axiom, sorry.
-/
import Derived.Test.YtfdmlccbfbiloaaDoorRows
import GoSem.ClaimSeven
namespace Go.Proofs.YtfdmlccbfbiloaaDoor
namespace Rows

/-- THE TIED CARD OF 'laws.FnExactFraming'. -/
def fnExactFramingCard : Claim7 := { stood := { row := fnExactFramingRow, standIns := [], harness := (true, "3bf1e3800eba62a46eaab2c458fdd44fc4e5ac37c1a0662ec9cf93bc23c1f979"), looks := true }, kinds := [], alts := [], laidByText := true, laidKinds := [.data, .data, .data, .data, .sentinel, .sentinel, .pinned], laidTests := true, laidLooks := .later }
def FnExactFramingCardSaid : Prop := Claim7.holds Tryd.pinned (.plain (OpenSpec.ofChange fnExactFramingSpec)) fnExactFramingCard

/-- THE SECOND FORM's CARD OF 'laws.FnExactFraming'. -/
def fnExactFramingUptoCard : Claim7 := { stood := { row := fnExactFramingUptoRow, standIns := [], harness := (true, "3bf1e3800eba62a46eaab2c458fdd44fc4e5ac37c1a0662ec9cf93bc23c1f979"), looks := true }, kinds := [], alts := [], laidByText := true, laidKinds := [.data, .data, .data, .data, .sentinel, .sentinel, .pinned], laidTests := true, laidLooks := .later }
def FnExactFramingUptoCardSaid : Prop := Claim7.holds Tryd.pinned (.plain (OpenSpec.upto fnExactFramingSpec)) fnExactFramingUptoCard
end Rows
end Go.Proofs.YtfdmlccbfbiloaaDoor
