/-
  DERIVED. GIVEN WITH THE SEED: THE CARDS: each row of YtlkagbbbhkkogaaGreatDoorRows.lean that lists a variable, with what it lists TIED to the program's text (the seventh form; the later family's looks); each row that meets fmt, with fmt's text TOLD by the authors' own Lean function (tested against real Go, not proved from fmt's source: count such statements apart). THE CARD IS WHAT COUNTS. Prove the row's statement (the work); the ties are given (YtlkagbbbhkkogaaGreatDoorTie.lean); close each card by the builder's one call (the guide's Derived/Test/ToyasCard.lean, 'card_holds'). Laid BY PROGRAM, IN A SANDBOX (cutbox-door.mjs). By AI agents, Wed Nov 11 2026. No macro, syntax, notation, axiom, sorry.
-/
import Derived.Test.YtlkagbbbhkkogaaGreatDoorRows
import GoSem.ClaimSeven
namespace Go.Proofs.YtlkagbbbhkkogaaGreatDoor
namespace Rows

/-- THE TIED CARD OF 'cognatelaw25.SpecNames'. -/
def specNamesCard : Claim7 := { stood := { row := specNamesRow, standIns := [], harness := (true, "af1eb4aa374c2e3dd69c5c9817f85b1a6cdcec3da2eeec107d08e6b5e0d4b1bf"), looks := true }, kinds := [], alts := [], laidByText := true, laidKinds := [.data], laidTests := true, laidLooks := .later }
def SpecNamesCardSaid : Prop := Claim7.holds Tryz.pinned (.plain (OpenSpec.ofChange specNamesSpec)) specNamesCard

/-- THE TIED CARD OF 'cognatelaw24.DirectClose'. -/
def directCloseCard : Claim7 := { stood := { row := directCloseRow, standIns := [], harness := (true, "af1eb4aa374c2e3dd69c5c9817f85b1a6cdcec3da2eeec107d08e6b5e0d4b1bf"), looks := true }, kinds := [], alts := [], laidByText := true, laidKinds := [.data], laidTests := true, laidLooks := .later }
def DirectCloseCardSaid : Prop := Claim7.holds Tryz.pinned (.plain (OpenSpec.ofChange directCloseSpec)) directCloseCard

/-- THE SECOND FORM's CARD OF 'cognatelaw25.SpecNames'. -/
def specNamesUptoCard : Claim7 := { stood := { row := specNamesUptoRow, standIns := [], harness := (true, "af1eb4aa374c2e3dd69c5c9817f85b1a6cdcec3da2eeec107d08e6b5e0d4b1bf"), looks := true }, kinds := [], alts := [], laidByText := true, laidKinds := [.data], laidTests := true, laidLooks := .later }
def SpecNamesUptoCardSaid : Prop := Claim7.holds Tryz.pinned (.plain (OpenSpec.upto specNamesSpec)) specNamesUptoCard

/-- THE SECOND FORM's CARD OF 'cognatelaw24.DirectClose'. -/
def directCloseUptoCard : Claim7 := { stood := { row := directCloseUptoRow, standIns := [], harness := (true, "af1eb4aa374c2e3dd69c5c9817f85b1a6cdcec3da2eeec107d08e6b5e0d4b1bf"), looks := true }, kinds := [], alts := [], laidByText := true, laidKinds := [.data], laidTests := true, laidLooks := .later }
def DirectCloseUptoCardSaid : Prop := Claim7.holds Tryz.pinned (.plain (OpenSpec.upto directCloseSpec)) directCloseUptoCard
end Rows
end Go.Proofs.YtlkagbbbhkkogaaGreatDoor
