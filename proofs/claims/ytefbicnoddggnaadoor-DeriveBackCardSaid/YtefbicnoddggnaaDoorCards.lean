/-
  DERIVED. GIVEN WITH THE SEED: THE CARDS: each row of YtefbicnoddggnaaDoorRows.lean that lists a variable, with what it lists TIED to the program's text (the seventh form; the later family's looks); each row that meets fmt, with fmt's text TOLD by the authors' own Lean function (tested against real Go, not proved from fmt's source: count such statements apart). THE CARD IS WHAT COUNTS. Prove the row's statement (the work); the ties are given (YtefbicnoddggnaaDoorTie.lean); close each card by the builder's one call (the guide's Derived/Test/ToyasCard.lean, 'card_holds'). Laid BY PROGRAM, IN A SANDBOX (cutbox-door.mjs). By AI agents, Wed Nov 11 2026. No macro, syntax, notation, axiom, sorry.
-/
import Derived.Test.YtefbicnoddggnaaDoorRows
import GoSem.ClaimSeven
namespace Go.Proofs.YtefbicnoddggnaaDoor
namespace Rows

/-- THE TIED CARD OF 'cognatelaw18.DeriveBack'. -/
def deriveBackCard : Claim7 := { stood := { row := deriveBackRow, standIns := [], harness := (true, "e2b581182bda290e3a6870f99f9bd3324bc3051c70d70fde7b683f2b09de2803"), looks := false }, kinds := [], alts := [], laidByText := true, laidKinds := [.data], laidTests := true, laidLooks := .later }
def DeriveBackCardSaid : Prop := Claim7.holds Tryd.pinned (.plain (OpenSpec.ofChange deriveBackSpec)) deriveBackCard

/-- THE SECOND FORM's CARD OF 'cognatelaw18.DeriveBack'. -/
def deriveBackUptoCard : Claim7 := { stood := { row := deriveBackUptoRow, standIns := [], harness := (true, "e2b581182bda290e3a6870f99f9bd3324bc3051c70d70fde7b683f2b09de2803"), looks := false }, kinds := [], alts := [], laidByText := true, laidKinds := [.data], laidTests := true, laidLooks := .later }
def DeriveBackUptoCardSaid : Prop := Claim7.holds Tryd.pinned (.plain (OpenSpec.upto deriveBackSpec)) deriveBackUptoCard
end Rows
end Go.Proofs.YtefbicnoddggnaaDoor
