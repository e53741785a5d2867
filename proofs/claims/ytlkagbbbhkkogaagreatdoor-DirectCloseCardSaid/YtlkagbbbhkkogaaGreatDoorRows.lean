/-
  NARROWER THAN 'FOR EVERY INPUT', by the rows' own cells (each row's printed sentence says how): SpecNames: loops, laid · DirectClose: loops, laid.
  DERIVED. THE GIVEN ROWS OF THIS SEAT. 2 by the template 'for every input the law returns true; each argument reads behind the call as it read before'; 0 by the template 'total and deterministic' (their statements: YtlkagbbbhkkogaaGreatDoorTotals.lean).
  GIVEN WITH THE SEED: the statements are not yours to turn. If you find one false, say at which input.
  Laid BY PROGRAM, IN A SANDBOX (cutbox-rows.mjs): the forced cells as the released guide's own fill.sh prints them over the translation 536c0f891f56ef69… (all of the seat's roots in one cut). By AI agents, Wed Nov 11 2026. No macro, syntax, notation, axiom, sorry.
-/
import Derived.Test.YtlkagbbbhkkogaaGreatDoorChecked
import GoSem.Claim
import GoSem.ClaimJoined
import GoSem.ClaimMapViews
import Derived.JoinedTies
import Derived.KernelRfl
namespace Go.Proofs.YtlkagbbbhkkogaaGreatDoor
/- THE CELL 'sum', in the pinned program and in every row, IS THE sha256 OF THE DUMP (.gsa) THAT YtlkagbbbhkkogaaGreatDoorProg.lean LOADS. Nothing in Lean hashes anything: it is a label: what it is worth is what the hold of that sum in a sandbox is worth. -/
noncomputable def Tryz.pinned : Pinned := { name := "ytlkagbbbhkkogaagreatdoor", sum := "536c0f891f56ef695f875c9a4b620a67310eb0c2b3ab5c7a7f6130716832d6c6", checked := Tryz.checked }
namespace Rows
def none {H : Type} : Left H := { results := [], args := [] }

/- WHAT THE LISTED PACKAGE-LEVEL VARIABLES READ AS WHEN THE CALL BEGINS. Each datum BY PROGRAM (the guide's laid-datum.mjs) off the statement by which the dump's own 'gosem.cut.vars' lays the variable. In a bare row this is a premise. The card (YtlkagbbbhkkogaaGreatDoorCards.lean) ties it to the program's text. -/
def laid_cognate_cognateref07_kids {H : Type} : DataW H := .agg [.lit (.int .i64 (-1)), .lit (.int .i64 0), .lit (.int .i64 0), .lit (.int .i64 0), .lit (.int .i64 0), .lit (.int .i64 2), .lit (.int .i64 1), .lit (.int .i64 1), .lit (.int .i64 1), .lit (.int .i64 3), .lit (.int .i64 2), .lit (.int .i64 2), .lit (.int .i64 1)]

/-- 'cognatelaw25.SpecNames': WHATEVER THE INPUT: true; the input reads as it did. -/
def specNamesSpec : ChangeSpec := { name := "specNames", fn := fun _ => fun
  | [d1, d2, d3] => { results := [.lit (.bool true)], args := [d1, d2, d3] }
  | _ => none }
def specNamesRow : OpenClaim := { program := "ytlkagbbbhkkogaagreatdoor", sum := "536c0f891f56ef695f875c9a4b620a67310eb0c2b3ab5c7a7f6130716832d6c6", func := "cognate/cognatelaw25.SpecNames", spec := "specNames", unfollowed := true, recurses := true, named := ["cognate/cognateref07.kids"], loops := true, plainKeys := false, apart := false, laid := [("cognate/cognateref07.kids", laid_cognate_cognateref07_kids)] }
def SpecNamesSaid : Prop := specNamesRow.holds Tryz.pinned (OpenSpec.ofChange specNamesSpec)

/-- ITS FALSE NEIGHBOUR: 'it returns false'. Refute it at one input. -/
def specNamesWrong : ChangeSpec := { name := "specNames", fn := fun _ => fun
  | [d1, d2, d3] => { results := [.lit (.bool false)], args := [d1, d2, d3] }
  | _ => none }
def SpecNamesWrongFalsely : Prop := specNamesRow.holds Tryz.pinned (OpenSpec.ofChange specNamesWrong)

/-- 'cognatelaw24.DirectClose': WHATEVER THE INPUT: true; the input reads as it did. -/
def directCloseSpec : ChangeSpec := { name := "directClose", fn := fun _ => fun
  | [d1, d2, d3] => { results := [.lit (.bool true)], args := [d1, d2, d3] }
  | _ => none }
def directCloseRow : OpenClaim := { program := "ytlkagbbbhkkogaagreatdoor", sum := "536c0f891f56ef695f875c9a4b620a67310eb0c2b3ab5c7a7f6130716832d6c6", func := "cognate/cognatelaw24.DirectClose", spec := "directClose", unfollowed := true, recurses := true, named := ["cognate/cognateref07.kids"], loops := true, plainKeys := false, apart := false, laid := [("cognate/cognateref07.kids", laid_cognate_cognateref07_kids)] }
def DirectCloseSaid : Prop := directCloseRow.holds Tryz.pinned (OpenSpec.ofChange directCloseSpec)

/-- ITS FALSE NEIGHBOUR: 'it returns false'. Refute it at one input. -/
def directCloseWrong : ChangeSpec := { name := "directClose", fn := fun _ => fun
  | [d1, d2, d3] => { results := [.lit (.bool false)], args := [d1, d2, d3] }
  | _ => none }
def DirectCloseWrongFalsely : Prop := directCloseRow.holds Tryz.pinned (OpenSpec.ofChange directCloseWrong)

/- THE SECOND FORM. 'bulk': how many values and letters a reading holds, each counted each time it is reached (what is shared counts as often as it is met; a slice's spare places count too). A statement '..UptoSaid' is the law's where the arguments, and the package variables that the reading takes, are together of bulk at most 1048576: NARROWER than '..Said'. Prove '..Said' where nothing that the law and all that it calls make is longer than what came in: it says more and counts as full. Else prove '..UptoSaid'. A law counts once. -/
mutual
def uptoBulk {H : Type} : DataW H → Nat
  | .lit (.string bytes) => bytes.length + 1
  | .lit _ => 1
  | .nil => 1
  | .ptr d => uptoBulk d + 1
  | .slice elems spare => uptoBulkAll elems + uptoBulkAll spare + 1
  | .agg parts => uptoBulkAll parts + 1
  | .iface _ d => uptoBulk d + 1
  | .map entries => uptoBulkEntries entries + 1
  | .held _ => 1
def uptoBulkAll {H : Type} : List (DataW H) → Nat
  | [] => 0
  | d :: r => uptoBulk d + uptoBulkAll r
def uptoBulkEntries {H : Type} : List (Lit × DataW H) → Nat
  | [] => 0
  | x :: r => uptoBulkEntry x + uptoBulkEntries r
def uptoBulkEntry {H : Type} : Lit × DataW H → Nat
  | (.string bytes, d) => bytes.length + uptoBulk d + 1
  | (_, d) => uptoBulk d + 1
 end
def uptoSmall : (H : Type) → List (DataW H) → Bool := fun _ ds => decide (uptoBulkAll ds ≤ 1048576)
def OpenSpec.upto (s : _root_.Go.ChangeSpec) : _root_.Go.OpenSpec := { _root_.Go.OpenSpec.ofChange s with cond := some uptoSmall }

/-- 'cognatelaw25.SpecNames', WHERE WHAT IT READS IS OF BULK AT MOST 1048576: true; the input reads as it did. -/
def specNamesUptoRow : OpenClaim := { program := "ytlkagbbbhkkogaagreatdoor", sum := "536c0f891f56ef695f875c9a4b620a67310eb0c2b3ab5c7a7f6130716832d6c6", func := "cognate/cognatelaw25.SpecNames", spec := "specNames", unfollowed := true, recurses := true, named := ["cognate/cognateref07.kids"], loops := true, plainKeys := false, apart := false, laid := [("cognate/cognateref07.kids", laid_cognate_cognateref07_kids)], narrowed := true }
def SpecNamesUptoSaid : Prop := specNamesUptoRow.holds Tryz.pinned (OpenSpec.upto specNamesSpec)

/-- 'cognatelaw24.DirectClose', WHERE WHAT IT READS IS OF BULK AT MOST 1048576: true; the input reads as it did. -/
def directCloseUptoRow : OpenClaim := { program := "ytlkagbbbhkkogaagreatdoor", sum := "536c0f891f56ef695f875c9a4b620a67310eb0c2b3ab5c7a7f6130716832d6c6", func := "cognate/cognatelaw24.DirectClose", spec := "directClose", unfollowed := true, recurses := true, named := ["cognate/cognateref07.kids"], loops := true, plainKeys := false, apart := false, laid := [("cognate/cognateref07.kids", laid_cognate_cognateref07_kids)], narrowed := true }
def DirectCloseUptoSaid : Prop := directCloseUptoRow.holds Tryz.pinned (OpenSpec.upto directCloseSpec)

end Rows
end Go.Proofs.YtlkagbbbhkkogaaGreatDoor
