/-
  DERIVED. GIVEN WITH THE SEED: THE CARDS: each row of YtfdmlccbfbiloaaGreatDoorRows.lean that lists a variable, with what it lists TIED to the program's text (the seventh form; the later family's looks); each row that meets fmt, with fmt's text TOLD by the authors' own Lean function (tested against real Go, not proved from fmt's source: count such statements apart). THE CARD IS WHAT COUNTS. Prove the row's statement (the work); the ties are given (YtfdmlccbfbiloaaGreatDoorTie.lean); close each card by the builder's one call (the guide's Derived/Test/ToyasCard.lean, 'card_holds'). Laid BY PROGRAM, IN A SANDBOX (cutbox-door.mjs). By AI agents, Wed Nov 11 2026. No macro, syntax, notation, axiom, sorry.
-/
import Derived.Test.YtfdmlccbfbiloaaGreatDoorRows
import GoSem.ClaimSeven
namespace Go.Proofs.YtfdmlccbfbiloaaGreatDoor
namespace Rows

/-- THE TIED CARD OF 'laws.FnExactHits'. -/
def fnExactHitsCard : Claim7 := { stood := { row := fnExactHitsRow, standIns := [], harness := (true, "39e4b7a76cf757a680855b983244fc7900ad7f23b85a96f75f0a4d1c0bd4472e"), looks := true }, kinds := [], alts := [], laidByText := true, laidKinds := [.data, .pinned], laidTests := true, laidLooks := .later }
def FnExactHitsCardSaid : Prop := Claim7.holds Tryz.pinned (.plain (OpenSpec.ofChange fnExactHitsSpec)) fnExactHitsCard

/-- THE TIED CARD OF 'laws.FnExactBarred'. -/
def fnExactBarredCard : Claim7 := { stood := { row := fnExactBarredRow, standIns := [], harness := (true, "39e4b7a76cf757a680855b983244fc7900ad7f23b85a96f75f0a4d1c0bd4472e"), looks := true }, kinds := [], alts := [], laidByText := true, laidKinds := [.data, .pinned], laidTests := true, laidLooks := .later }
def FnExactBarredCardSaid : Prop := Claim7.holds Tryz.pinned (.plain (OpenSpec.ofChange fnExactBarredSpec)) fnExactBarredCard

/-- THE TIED CARD OF 'laws.FnExactKept'. -/
def fnExactKeptCard : Claim7 := { stood := { row := fnExactKeptRow, standIns := [], harness := (true, "39e4b7a76cf757a680855b983244fc7900ad7f23b85a96f75f0a4d1c0bd4472e"), looks := true }, kinds := [], alts := [], laidByText := true, laidKinds := [.data, .pinned], laidTests := true, laidLooks := .later }
def FnExactKeptCardSaid : Prop := Claim7.holds Tryz.pinned (.plain (OpenSpec.ofChange fnExactKeptSpec)) fnExactKeptCard

/-- THE TIED CARD OF 'laws.FnExactStorable'. -/
def fnExactStorableCard : Claim7 := { stood := { row := fnExactStorableRow, standIns := [], harness := (true, "39e4b7a76cf757a680855b983244fc7900ad7f23b85a96f75f0a4d1c0bd4472e"), looks := true }, kinds := [], alts := [], laidByText := true, laidKinds := [.data, .data, .data, .data, .sentinel, .sentinel, .pinned], laidTests := true, laidLooks := .later }
def FnExactStorableCardSaid : Prop := Claim7.holds Tryz.pinned (.plain (OpenSpec.ofChange fnExactStorableSpec)) fnExactStorableCard

/-- THE TIED CARD OF 'laws.FnExactAgeAt'. -/
def fnExactAgeAtCard : Claim7 := { stood := { row := fnExactAgeAtRow, standIns := [], harness := (true, "39e4b7a76cf757a680855b983244fc7900ad7f23b85a96f75f0a4d1c0bd4472e"), looks := true }, kinds := [], alts := [], laidByText := true, laidKinds := [.data, .data, .data, .data, .sentinel, .sentinel, .pinned], laidTests := true, laidLooks := .later }
def FnExactAgeAtCardSaid : Prop := Claim7.holds Tryz.pinned (.plain (OpenSpec.ofChange fnExactAgeAtSpec)) fnExactAgeAtCard

/-- THE TIED CARD OF 'laws.FnExactLifetime'. -/
def fnExactLifetimeCard : Claim7 := { stood := { row := fnExactLifetimeRow, standIns := [], harness := (true, "39e4b7a76cf757a680855b983244fc7900ad7f23b85a96f75f0a4d1c0bd4472e"), looks := true }, kinds := [], alts := [], laidByText := true, laidKinds := [.data, .data, .data, .data, .sentinel, .sentinel, .pinned], laidTests := true, laidLooks := .later }
def FnExactLifetimeCardSaid : Prop := Claim7.holds Tryz.pinned (.plain (OpenSpec.ofChange fnExactLifetimeSpec)) fnExactLifetimeCard

/-- THE TIED CARD OF 'laws.FnExactFreshAt'. -/
def fnExactFreshAtCard : Claim7 := { stood := { row := fnExactFreshAtRow, standIns := [], harness := (true, "39e4b7a76cf757a680855b983244fc7900ad7f23b85a96f75f0a4d1c0bd4472e"), looks := true }, kinds := [], alts := [], laidByText := true, laidKinds := [.data, .data, .data, .data, .sentinel, .sentinel, .pinned], laidTests := true, laidLooks := .later }
def FnExactFreshAtCardSaid : Prop := Claim7.holds Tryz.pinned (.plain (OpenSpec.ofChange fnExactFreshAtSpec)) fnExactFreshAtCard

/-- THE TIED CARD OF 'laws.FnExactDecided'. -/
def fnExactDecidedCard : Claim7 := { stood := { row := fnExactDecidedRow, standIns := [], harness := (true, "39e4b7a76cf757a680855b983244fc7900ad7f23b85a96f75f0a4d1c0bd4472e"), looks := true }, kinds := [], alts := [], laidByText := true, laidKinds := [.data, .data, .data, .data, .sentinel, .sentinel, .pinned], laidTests := true, laidLooks := .later }
def FnExactDecidedCardSaid : Prop := Claim7.holds Tryz.pinned (.plain (OpenSpec.ofChange fnExactDecidedSpec)) fnExactDecidedCard

/-- THE SECOND FORM's CARD OF 'laws.FnExactHits'. -/
def fnExactHitsUptoCard : Claim7 := { stood := { row := fnExactHitsUptoRow, standIns := [], harness := (true, "39e4b7a76cf757a680855b983244fc7900ad7f23b85a96f75f0a4d1c0bd4472e"), looks := true }, kinds := [], alts := [], laidByText := true, laidKinds := [.data, .pinned], laidTests := true, laidLooks := .later }
def FnExactHitsUptoCardSaid : Prop := Claim7.holds Tryz.pinned (.plain (OpenSpec.upto fnExactHitsSpec)) fnExactHitsUptoCard

/-- THE SECOND FORM's CARD OF 'laws.FnExactBarred'. -/
def fnExactBarredUptoCard : Claim7 := { stood := { row := fnExactBarredUptoRow, standIns := [], harness := (true, "39e4b7a76cf757a680855b983244fc7900ad7f23b85a96f75f0a4d1c0bd4472e"), looks := true }, kinds := [], alts := [], laidByText := true, laidKinds := [.data, .pinned], laidTests := true, laidLooks := .later }
def FnExactBarredUptoCardSaid : Prop := Claim7.holds Tryz.pinned (.plain (OpenSpec.upto fnExactBarredSpec)) fnExactBarredUptoCard

/-- THE SECOND FORM's CARD OF 'laws.FnExactKept'. -/
def fnExactKeptUptoCard : Claim7 := { stood := { row := fnExactKeptUptoRow, standIns := [], harness := (true, "39e4b7a76cf757a680855b983244fc7900ad7f23b85a96f75f0a4d1c0bd4472e"), looks := true }, kinds := [], alts := [], laidByText := true, laidKinds := [.data, .pinned], laidTests := true, laidLooks := .later }
def FnExactKeptUptoCardSaid : Prop := Claim7.holds Tryz.pinned (.plain (OpenSpec.upto fnExactKeptSpec)) fnExactKeptUptoCard

/-- THE SECOND FORM's CARD OF 'laws.FnExactStorable'. -/
def fnExactStorableUptoCard : Claim7 := { stood := { row := fnExactStorableUptoRow, standIns := [], harness := (true, "39e4b7a76cf757a680855b983244fc7900ad7f23b85a96f75f0a4d1c0bd4472e"), looks := true }, kinds := [], alts := [], laidByText := true, laidKinds := [.data, .data, .data, .data, .sentinel, .sentinel, .pinned], laidTests := true, laidLooks := .later }
def FnExactStorableUptoCardSaid : Prop := Claim7.holds Tryz.pinned (.plain (OpenSpec.upto fnExactStorableSpec)) fnExactStorableUptoCard

/-- THE SECOND FORM's CARD OF 'laws.FnExactAgeAt'. -/
def fnExactAgeAtUptoCard : Claim7 := { stood := { row := fnExactAgeAtUptoRow, standIns := [], harness := (true, "39e4b7a76cf757a680855b983244fc7900ad7f23b85a96f75f0a4d1c0bd4472e"), looks := true }, kinds := [], alts := [], laidByText := true, laidKinds := [.data, .data, .data, .data, .sentinel, .sentinel, .pinned], laidTests := true, laidLooks := .later }
def FnExactAgeAtUptoCardSaid : Prop := Claim7.holds Tryz.pinned (.plain (OpenSpec.upto fnExactAgeAtSpec)) fnExactAgeAtUptoCard

/-- THE SECOND FORM's CARD OF 'laws.FnExactLifetime'. -/
def fnExactLifetimeUptoCard : Claim7 := { stood := { row := fnExactLifetimeUptoRow, standIns := [], harness := (true, "39e4b7a76cf757a680855b983244fc7900ad7f23b85a96f75f0a4d1c0bd4472e"), looks := true }, kinds := [], alts := [], laidByText := true, laidKinds := [.data, .data, .data, .data, .sentinel, .sentinel, .pinned], laidTests := true, laidLooks := .later }
def FnExactLifetimeUptoCardSaid : Prop := Claim7.holds Tryz.pinned (.plain (OpenSpec.upto fnExactLifetimeSpec)) fnExactLifetimeUptoCard

/-- THE SECOND FORM's CARD OF 'laws.FnExactFreshAt'. -/
def fnExactFreshAtUptoCard : Claim7 := { stood := { row := fnExactFreshAtUptoRow, standIns := [], harness := (true, "39e4b7a76cf757a680855b983244fc7900ad7f23b85a96f75f0a4d1c0bd4472e"), looks := true }, kinds := [], alts := [], laidByText := true, laidKinds := [.data, .data, .data, .data, .sentinel, .sentinel, .pinned], laidTests := true, laidLooks := .later }
def FnExactFreshAtUptoCardSaid : Prop := Claim7.holds Tryz.pinned (.plain (OpenSpec.upto fnExactFreshAtSpec)) fnExactFreshAtUptoCard

/-- THE SECOND FORM's CARD OF 'laws.FnExactDecided'. -/
def fnExactDecidedUptoCard : Claim7 := { stood := { row := fnExactDecidedUptoRow, standIns := [], harness := (true, "39e4b7a76cf757a680855b983244fc7900ad7f23b85a96f75f0a4d1c0bd4472e"), looks := true }, kinds := [], alts := [], laidByText := true, laidKinds := [.data, .data, .data, .data, .sentinel, .sentinel, .pinned], laidTests := true, laidLooks := .later }
def FnExactDecidedUptoCardSaid : Prop := Claim7.holds Tryz.pinned (.plain (OpenSpec.upto fnExactDecidedSpec)) fnExactDecidedUptoCard
end Rows
end Go.Proofs.YtfdmlccbfbiloaaGreatDoor
