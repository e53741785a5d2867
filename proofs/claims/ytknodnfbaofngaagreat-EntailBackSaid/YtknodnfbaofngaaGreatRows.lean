/-
  NARROWER THAN 'FOR EVERY INPUT', by the rows' own cells (each row's printed sentence says how): EntailProves: loops · EntailHolds: loops · EntailMore: loops · EntailAll: loops · EntailBack: loops.
  DERIVED. THE GIVEN ROWS OF THIS SEAT. 5 by the template 'for every input the law returns true; each argument reads behind the call as it read before'; 0 by the template 'total and deterministic' (their statements: YtknodnfbaofngaaGreatTotals.lean).
  GIVEN WITH THE SEED: the statements are not yours to turn. If you find one false, say at which input.
  Laid BY PROGRAM, IN A SANDBOX (cutbox-rows.mjs): the forced cells as the released guide's own fill.sh prints them over the translation aca673376a9d0d59… (all of the seat's roots in one cut). By AI agents, Wed Nov 11 2026. No macro, syntax, notation, axiom, sorry.
-/
import Derived.Test.YtknodnfbaofngaaGreatChecked
import GoSem.Claim
import GoSem.ClaimJoined
import GoSem.ClaimMapViews
import Derived.JoinedTies
import Derived.KernelRfl
namespace Go.Proofs.YtknodnfbaofngaaGreat
/- THE CELL 'sum', in the pinned program and in every row, IS THE sha256 OF THE DUMP (.gsa) THAT YtknodnfbaofngaaGreatProg.lean LOADS. Nothing in Lean hashes anything: it is a label: what it is worth is what the hold of that sum in a sandbox is worth. -/
noncomputable def Tryz.pinned : Pinned := { name := "ytknodnfbaofngaagreat", sum := "aca673376a9d0d5967bcf0b2e90b5f2561123d1b849824bdca3bb175f7d8e37a", checked := Tryz.checked }
namespace Rows
def none {H : Type} : Left H := { results := [], args := [] }

/-- 'cognatelaw12.EntailProves': WHATEVER THE INPUT: true; the input reads as it did. -/
def entailProvesSpec : ChangeSpec := { name := "entailProves", fn := fun _ => fun
  | [d1, d2] => { results := [.lit (.bool true)], args := [d1, d2] }
  | _ => none }
def entailProvesRow : OpenClaim := { program := "ytknodnfbaofngaagreat", sum := "aca673376a9d0d5967bcf0b2e90b5f2561123d1b849824bdca3bb175f7d8e37a", func := "cognate/cognatelaw12.EntailProves", spec := "entailProves", unfollowed := true, recurses := true, loops := true, apart := false }
def EntailProvesSaid : Prop := entailProvesRow.holds Tryz.pinned (OpenSpec.ofChange entailProvesSpec)

/-- ITS FALSE NEIGHBOUR: 'it returns false'. Refute it at one input. -/
def entailProvesWrong : ChangeSpec := { name := "entailProves", fn := fun _ => fun
  | [d1, d2] => { results := [.lit (.bool false)], args := [d1, d2] }
  | _ => none }
def EntailProvesWrongFalsely : Prop := entailProvesRow.holds Tryz.pinned (OpenSpec.ofChange entailProvesWrong)

/-- 'cognatelaw12.EntailHolds': WHATEVER THE INPUT: true; the input reads as it did. -/
def entailHoldsSpec : ChangeSpec := { name := "entailHolds", fn := fun _ => fun
  | [d1, d2] => { results := [.lit (.bool true)], args := [d1, d2] }
  | _ => none }
def entailHoldsRow : OpenClaim := { program := "ytknodnfbaofngaagreat", sum := "aca673376a9d0d5967bcf0b2e90b5f2561123d1b849824bdca3bb175f7d8e37a", func := "cognate/cognatelaw12.EntailHolds", spec := "entailHolds", unfollowed := true, recurses := true, loops := true, apart := false }
def EntailHoldsSaid : Prop := entailHoldsRow.holds Tryz.pinned (OpenSpec.ofChange entailHoldsSpec)

/-- ITS FALSE NEIGHBOUR: 'it returns false'. Refute it at one input. -/
def entailHoldsWrong : ChangeSpec := { name := "entailHolds", fn := fun _ => fun
  | [d1, d2] => { results := [.lit (.bool false)], args := [d1, d2] }
  | _ => none }
def EntailHoldsWrongFalsely : Prop := entailHoldsRow.holds Tryz.pinned (OpenSpec.ofChange entailHoldsWrong)

/-- 'cognatelaw12.EntailMore': WHATEVER THE INPUT: true; the input reads as it did. -/
def entailMoreSpec : ChangeSpec := { name := "entailMore", fn := fun _ => fun
  | [d1, d2, d3] => { results := [.lit (.bool true)], args := [d1, d2, d3] }
  | _ => none }
def entailMoreRow : OpenClaim := { program := "ytknodnfbaofngaagreat", sum := "aca673376a9d0d5967bcf0b2e90b5f2561123d1b849824bdca3bb175f7d8e37a", func := "cognate/cognatelaw12.EntailMore", spec := "entailMore", unfollowed := true, recurses := true, loops := true, apart := false }
def EntailMoreSaid : Prop := entailMoreRow.holds Tryz.pinned (OpenSpec.ofChange entailMoreSpec)

/-- ITS FALSE NEIGHBOUR: 'it returns false'. Refute it at one input. -/
def entailMoreWrong : ChangeSpec := { name := "entailMore", fn := fun _ => fun
  | [d1, d2, d3] => { results := [.lit (.bool false)], args := [d1, d2, d3] }
  | _ => none }
def EntailMoreWrongFalsely : Prop := entailMoreRow.holds Tryz.pinned (OpenSpec.ofChange entailMoreWrong)

/-- 'cognatelaw12.EntailAll': WHATEVER THE INPUT: true; the input reads as it did. -/
def entailAllSpec : ChangeSpec := { name := "entailAll", fn := fun _ => fun
  | [d1, d2] => { results := [.lit (.bool true)], args := [d1, d2] }
  | _ => none }
def entailAllRow : OpenClaim := { program := "ytknodnfbaofngaagreat", sum := "aca673376a9d0d5967bcf0b2e90b5f2561123d1b849824bdca3bb175f7d8e37a", func := "cognate/cognatelaw12.EntailAll", spec := "entailAll", unfollowed := true, recurses := true, loops := true, apart := false }
def EntailAllSaid : Prop := entailAllRow.holds Tryz.pinned (OpenSpec.ofChange entailAllSpec)

/-- ITS FALSE NEIGHBOUR: 'it returns false'. Refute it at one input. -/
def entailAllWrong : ChangeSpec := { name := "entailAll", fn := fun _ => fun
  | [d1, d2] => { results := [.lit (.bool false)], args := [d1, d2] }
  | _ => none }
def EntailAllWrongFalsely : Prop := entailAllRow.holds Tryz.pinned (OpenSpec.ofChange entailAllWrong)

/-- 'cognatelaw12.EntailBack': WHATEVER THE INPUT: true; the input reads as it did. -/
def entailBackSpec : ChangeSpec := { name := "entailBack", fn := fun _ => fun
  | [d1, d2] => { results := [.lit (.bool true)], args := [d1, d2] }
  | _ => none }
def entailBackRow : OpenClaim := { program := "ytknodnfbaofngaagreat", sum := "aca673376a9d0d5967bcf0b2e90b5f2561123d1b849824bdca3bb175f7d8e37a", func := "cognate/cognatelaw12.EntailBack", spec := "entailBack", unfollowed := true, recurses := true, loops := true, apart := false }
def EntailBackSaid : Prop := entailBackRow.holds Tryz.pinned (OpenSpec.ofChange entailBackSpec)

/-- ITS FALSE NEIGHBOUR: 'it returns false'. Refute it at one input. -/
def entailBackWrong : ChangeSpec := { name := "entailBack", fn := fun _ => fun
  | [d1, d2] => { results := [.lit (.bool false)], args := [d1, d2] }
  | _ => none }
def EntailBackWrongFalsely : Prop := entailBackRow.holds Tryz.pinned (OpenSpec.ofChange entailBackWrong)

/- THE SECOND FORM. 'bulk': how many values and letters a reading holds, each counted each time it is reached (what is shared counts as often as it is met; a slice's spare places count too). A statement '..UptoSaid' is the law's where the arguments, and the package variables that the reading takes, are together of bulk at most 1048576: NARROWER than '..Said'. Prove '..Said' where nothing that the law and all that it calls make is longer than what came in: it says more and counts as full. Else prove '..UptoSaid'. A law counts once. -/
mutual
def uptoBulk {H : Type} : DataW H → Nat
  | .lit (.string bytes) => bytes.length + 1
  | .lit _ => 1
  | .nil => 1
  | .ptr d => uptoBulk d + 1
  | .slice elems spare => uptoBulkAll elems + uptoBulkAll spare + 1
  | .agg parts => uptoBulkAll parts + 1
  | .iface _ d => uptoBulk d + 1
  | .map entries => uptoBulkEntries entries + 1
  | .held _ => 1
def uptoBulkAll {H : Type} : List (DataW H) → Nat
  | [] => 0
  | d :: r => uptoBulk d + uptoBulkAll r
def uptoBulkEntries {H : Type} : List (Lit × DataW H) → Nat
  | [] => 0
  | x :: r => uptoBulkEntry x + uptoBulkEntries r
def uptoBulkEntry {H : Type} : Lit × DataW H → Nat
  | (.string bytes, d) => bytes.length + uptoBulk d + 1
  | (_, d) => uptoBulk d + 1
 end
def uptoSmall : (H : Type) → List (DataW H) → Bool := fun _ ds => decide (uptoBulkAll ds ≤ 1048576)
def OpenSpec.upto (s : _root_.Go.ChangeSpec) : _root_.Go.OpenSpec := { _root_.Go.OpenSpec.ofChange s with cond := some uptoSmall }

/-- 'cognatelaw12.EntailProves', WHERE WHAT IT READS IS OF BULK AT MOST 1048576: true; the input reads as it did. -/
def entailProvesUptoRow : OpenClaim := { program := "ytknodnfbaofngaagreat", sum := "aca673376a9d0d5967bcf0b2e90b5f2561123d1b849824bdca3bb175f7d8e37a", func := "cognate/cognatelaw12.EntailProves", spec := "entailProves", unfollowed := true, recurses := true, loops := true, apart := false, narrowed := true }
def EntailProvesUptoSaid : Prop := entailProvesUptoRow.holds Tryz.pinned (OpenSpec.upto entailProvesSpec)

/-- 'cognatelaw12.EntailHolds', WHERE WHAT IT READS IS OF BULK AT MOST 1048576: true; the input reads as it did. -/
def entailHoldsUptoRow : OpenClaim := { program := "ytknodnfbaofngaagreat", sum := "aca673376a9d0d5967bcf0b2e90b5f2561123d1b849824bdca3bb175f7d8e37a", func := "cognate/cognatelaw12.EntailHolds", spec := "entailHolds", unfollowed := true, recurses := true, loops := true, apart := false, narrowed := true }
def EntailHoldsUptoSaid : Prop := entailHoldsUptoRow.holds Tryz.pinned (OpenSpec.upto entailHoldsSpec)

/-- 'cognatelaw12.EntailMore', WHERE WHAT IT READS IS OF BULK AT MOST 1048576: true; the input reads as it did. -/
def entailMoreUptoRow : OpenClaim := { program := "ytknodnfbaofngaagreat", sum := "aca673376a9d0d5967bcf0b2e90b5f2561123d1b849824bdca3bb175f7d8e37a", func := "cognate/cognatelaw12.EntailMore", spec := "entailMore", unfollowed := true, recurses := true, loops := true, apart := false, narrowed := true }
def EntailMoreUptoSaid : Prop := entailMoreUptoRow.holds Tryz.pinned (OpenSpec.upto entailMoreSpec)

/-- 'cognatelaw12.EntailAll', WHERE WHAT IT READS IS OF BULK AT MOST 1048576: true; the input reads as it did. -/
def entailAllUptoRow : OpenClaim := { program := "ytknodnfbaofngaagreat", sum := "aca673376a9d0d5967bcf0b2e90b5f2561123d1b849824bdca3bb175f7d8e37a", func := "cognate/cognatelaw12.EntailAll", spec := "entailAll", unfollowed := true, recurses := true, loops := true, apart := false, narrowed := true }
def EntailAllUptoSaid : Prop := entailAllUptoRow.holds Tryz.pinned (OpenSpec.upto entailAllSpec)

/-- 'cognatelaw12.EntailBack', WHERE WHAT IT READS IS OF BULK AT MOST 1048576: true; the input reads as it did. -/
def entailBackUptoRow : OpenClaim := { program := "ytknodnfbaofngaagreat", sum := "aca673376a9d0d5967bcf0b2e90b5f2561123d1b849824bdca3bb175f7d8e37a", func := "cognate/cognatelaw12.EntailBack", spec := "entailBack", unfollowed := true, recurses := true, loops := true, apart := false, narrowed := true }
def EntailBackUptoSaid : Prop := entailBackUptoRow.holds Tryz.pinned (OpenSpec.upto entailBackSpec)

end Rows
end Go.Proofs.YtknodnfbaofngaaGreat
