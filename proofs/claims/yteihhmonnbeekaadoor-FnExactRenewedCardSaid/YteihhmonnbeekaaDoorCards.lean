/-
  DERIVED. GIVEN WITH THE SEED: THE CARDS: each row of YteihhmonnbeekaaDoorRows.lean that lists a variable, with what it lists TIED to the program's text (the seventh form; the later family's looks); each row that meets fmt, with fmt's text TOLD by the authors' own Lean function (tested against real Go, not proved from fmt's source: count such statements apart). THE CARD IS WHAT COUNTS. Prove the row's statement (the work); the ties are given (YteihhmonnbeekaaDoorTie.lean); close each card by the builder's one call (the guide's Derived/Test/ToyasCard.lean, 'card_holds'). Laid BY PROGRAM, IN A SANDBOX (cutbox-door.mjs). By AI agents, Wed Nov 11 2026. No macro, syntax, notation, axiom, sorry.
-/
import Derived.Test.YteihhmonnbeekaaDoorRows
import GoSem.ClaimSeven
namespace Go.Proofs.YteihhmonnbeekaaDoor
namespace Rows

/-- THE TIED CARD OF 'laws.FnExactHopless'. -/
def fnExactHoplessCard : Claim7 := { stood := { row := fnExactHoplessRow, standIns := [], harness := (true, "ba3df161cecd5207ed74e999e8ecd9ef25a203833941ac534ce13e5764e766cb"), looks := true }, kinds := [], alts := [], laidByText := true, laidKinds := [.data, .pinned], laidTests := true, laidLooks := .later }
def FnExactHoplessCardSaid : Prop := Claim7.holds Tryd.pinned (.plain (OpenSpec.ofChange fnExactHoplessSpec)) fnExactHoplessCard

/-- THE TIED CARD OF 'laws.FnExactRenewed'. -/
def fnExactRenewedCard : Claim7 := { stood := { row := fnExactRenewedRow, standIns := [], harness := (true, "ba3df161cecd5207ed74e999e8ecd9ef25a203833941ac534ce13e5764e766cb"), looks := true }, kinds := [], alts := [], laidByText := true, laidKinds := [.data, .pinned], laidTests := true, laidLooks := .later }
def FnExactRenewedCardSaid : Prop := Claim7.holds Tryd.pinned (.plain (OpenSpec.ofChange fnExactRenewedSpec)) fnExactRenewedCard

/-- THE TIED CARD OF 'laws.FnNamed'. -/
def fnNamedCard : Claim7 := { stood := { row := fnNamedRow, standIns := [], harness := (true, "ba3df161cecd5207ed74e999e8ecd9ef25a203833941ac534ce13e5764e766cb"), looks := true }, kinds := [], alts := [], laidByText := true, laidKinds := [.data, .pinned], laidTests := true, laidLooks := .later }
def FnNamedCardSaid : Prop := Claim7.holds Tryd.pinned (.plain (OpenSpec.ofChange fnNamedSpec)) fnNamedCard

/-- THE TIED CARD OF 'laws.FnExactFraming'. -/
def fnExactFramingCard : Claim7 := { stood := { row := fnExactFramingRow, standIns := [], harness := (true, "ba3df161cecd5207ed74e999e8ecd9ef25a203833941ac534ce13e5764e766cb"), looks := true }, kinds := [], alts := [], laidByText := true, laidKinds := [.data, .data, .data, .data, .sentinel, .sentinel, .pinned], laidTests := true, laidLooks := .later }
def FnExactFramingCardSaid : Prop := Claim7.holds Tryd.pinned (.plain (OpenSpec.ofChange fnExactFramingSpec)) fnExactFramingCard

/-- THE SECOND FORM's CARD OF 'laws.FnExactHopless'. -/
def fnExactHoplessUptoCard : Claim7 := { stood := { row := fnExactHoplessUptoRow, standIns := [], harness := (true, "ba3df161cecd5207ed74e999e8ecd9ef25a203833941ac534ce13e5764e766cb"), looks := true }, kinds := [], alts := [], laidByText := true, laidKinds := [.data, .pinned], laidTests := true, laidLooks := .later }
def FnExactHoplessUptoCardSaid : Prop := Claim7.holds Tryd.pinned (.plain (OpenSpec.upto fnExactHoplessSpec)) fnExactHoplessUptoCard

/-- THE SECOND FORM's CARD OF 'laws.FnExactRenewed'. -/
def fnExactRenewedUptoCard : Claim7 := { stood := { row := fnExactRenewedUptoRow, standIns := [], harness := (true, "ba3df161cecd5207ed74e999e8ecd9ef25a203833941ac534ce13e5764e766cb"), looks := true }, kinds := [], alts := [], laidByText := true, laidKinds := [.data, .pinned], laidTests := true, laidLooks := .later }
def FnExactRenewedUptoCardSaid : Prop := Claim7.holds Tryd.pinned (.plain (OpenSpec.upto fnExactRenewedSpec)) fnExactRenewedUptoCard

/-- THE SECOND FORM's CARD OF 'laws.FnNamed'. -/
def fnNamedUptoCard : Claim7 := { stood := { row := fnNamedUptoRow, standIns := [], harness := (true, "ba3df161cecd5207ed74e999e8ecd9ef25a203833941ac534ce13e5764e766cb"), looks := true }, kinds := [], alts := [], laidByText := true, laidKinds := [.data, .pinned], laidTests := true, laidLooks := .later }
def FnNamedUptoCardSaid : Prop := Claim7.holds Tryd.pinned (.plain (OpenSpec.upto fnNamedSpec)) fnNamedUptoCard

/-- THE SECOND FORM's CARD OF 'laws.FnExactFraming'. -/
def fnExactFramingUptoCard : Claim7 := { stood := { row := fnExactFramingUptoRow, standIns := [], harness := (true, "ba3df161cecd5207ed74e999e8ecd9ef25a203833941ac534ce13e5764e766cb"), looks := true }, kinds := [], alts := [], laidByText := true, laidKinds := [.data, .data, .data, .data, .sentinel, .sentinel, .pinned], laidTests := true, laidLooks := .later }
def FnExactFramingUptoCardSaid : Prop := Claim7.holds Tryd.pinned (.plain (OpenSpec.upto fnExactFramingSpec)) fnExactFramingUptoCard
end Rows
end Go.Proofs.YteihhmonnbeekaaDoor
