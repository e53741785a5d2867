/-
  NARROWER THAN 'FOR EVERY INPUT', by the rows' own cells (each row's printed sentence says how): TypesMatch: loops · TypesBack: loops · TypesAsk: loops · TypesPut: loops · TreeMeasures: loops · TreeSames: loops · TreeNames: loops · TreeBinds: loops · TreeProgs: loops.
  DERIVED. THE GIVEN ROWS OF THIS SEAT. 9 by the template 'for every input the law returns true; each argument reads behind the call as it read before'; 0 by the template 'total and deterministic' (their statements: YtjgjnheeohfmmaaTotals.lean).
  GIVEN WITH THE SEED: the statements are not yours to turn. If you find one false, say at which input.
  Laid BY PROGRAM, IN A SANDBOX (cutbox-rows.mjs): the forced cells as the released guide's own fill.sh prints them over the translation b9aeb4c4022223ff… (all of the seat's roots in one cut). By AI agents, Wed Nov 11 2026. No macro, syntax, notation, axiom, sorry.
-/
import Derived.Test.YtjgjnheeohfmmaaChecked
import GoSem.Claim
import GoSem.ClaimJoined
import GoSem.ClaimMapViews
import Derived.JoinedTies
import Derived.KernelRfl
namespace Go.Proofs.Ytjgjnheeohfmmaa
/- THE CELL 'sum', in the pinned program and in every row, IS THE sha256 OF THE DUMP (.gsa) THAT YtjgjnheeohfmmaaProg.lean LOADS. Nothing in Lean hashes anything: it is a label: what it is worth is what the hold of that sum in a sandbox is worth. -/
noncomputable def Try.pinned : Pinned := { name := "ytjgjnheeohfmmaa", sum := "b9aeb4c4022223ffdb319cfb818b73dcfe84eecdaa40e1bba24bdd5934894b13", checked := Try.checked }
namespace Rows
def none {H : Type} : Left H := { results := [], args := [] }

/-- 'cognatelaw08.TypesMatch': WHATEVER THE INPUT: true; the input reads as it did. -/
def typesMatchSpec : ChangeSpec := { name := "typesMatch", fn := fun _ => fun
  | [d1, d2, d3] => { results := [.lit (.bool true)], args := [d1, d2, d3] }
  | _ => none }
def typesMatchRow : OpenClaim := { program := "ytjgjnheeohfmmaa", sum := "b9aeb4c4022223ffdb319cfb818b73dcfe84eecdaa40e1bba24bdd5934894b13", func := "cognate/cognatelaw08.TypesMatch", spec := "typesMatch", unfollowed := true, recurses := true, loops := true, apart := false }
def TypesMatchSaid : Prop := typesMatchRow.holds Try.pinned (OpenSpec.ofChange typesMatchSpec)

/-- ITS FALSE NEIGHBOUR: 'it returns false'. Refute it at one input. -/
def typesMatchWrong : ChangeSpec := { name := "typesMatch", fn := fun _ => fun
  | [d1, d2, d3] => { results := [.lit (.bool false)], args := [d1, d2, d3] }
  | _ => none }
def TypesMatchWrongFalsely : Prop := typesMatchRow.holds Try.pinned (OpenSpec.ofChange typesMatchWrong)

/-- 'cognatelaw08.TypesBack': WHATEVER THE INPUT: true; the input reads as it did. -/
def typesBackSpec : ChangeSpec := { name := "typesBack", fn := fun _ => fun
  | [d1, d2, d3] => { results := [.lit (.bool true)], args := [d1, d2, d3] }
  | _ => none }
def typesBackRow : OpenClaim := { program := "ytjgjnheeohfmmaa", sum := "b9aeb4c4022223ffdb319cfb818b73dcfe84eecdaa40e1bba24bdd5934894b13", func := "cognate/cognatelaw08.TypesBack", spec := "typesBack", unfollowed := true, recurses := true, loops := true, apart := false }
def TypesBackSaid : Prop := typesBackRow.holds Try.pinned (OpenSpec.ofChange typesBackSpec)

/-- ITS FALSE NEIGHBOUR: 'it returns false'. Refute it at one input. -/
def typesBackWrong : ChangeSpec := { name := "typesBack", fn := fun _ => fun
  | [d1, d2, d3] => { results := [.lit (.bool false)], args := [d1, d2, d3] }
  | _ => none }
def TypesBackWrongFalsely : Prop := typesBackRow.holds Try.pinned (OpenSpec.ofChange typesBackWrong)

/-- 'cognatelaw08.TypesAsk': WHATEVER THE INPUT: true; the input reads as it did. -/
def typesAskSpec : ChangeSpec := { name := "typesAsk", fn := fun _ => fun
  | [d1, d2] => { results := [.lit (.bool true)], args := [d1, d2] }
  | _ => none }
def typesAskRow : OpenClaim := { program := "ytjgjnheeohfmmaa", sum := "b9aeb4c4022223ffdb319cfb818b73dcfe84eecdaa40e1bba24bdd5934894b13", func := "cognate/cognatelaw08.TypesAsk", spec := "typesAsk", unfollowed := true, recurses := true, loops := true, apart := false }
def TypesAskSaid : Prop := typesAskRow.holds Try.pinned (OpenSpec.ofChange typesAskSpec)

/-- ITS FALSE NEIGHBOUR: 'it returns false'. Refute it at one input. -/
def typesAskWrong : ChangeSpec := { name := "typesAsk", fn := fun _ => fun
  | [d1, d2] => { results := [.lit (.bool false)], args := [d1, d2] }
  | _ => none }
def TypesAskWrongFalsely : Prop := typesAskRow.holds Try.pinned (OpenSpec.ofChange typesAskWrong)

/-- 'cognatelaw08.TypesPut': WHATEVER THE INPUT: true; the input reads as it did. -/
def typesPutSpec : ChangeSpec := { name := "typesPut", fn := fun _ => fun
  | [d1, d2] => { results := [.lit (.bool true)], args := [d1, d2] }
  | _ => none }
def typesPutRow : OpenClaim := { program := "ytjgjnheeohfmmaa", sum := "b9aeb4c4022223ffdb319cfb818b73dcfe84eecdaa40e1bba24bdd5934894b13", func := "cognate/cognatelaw08.TypesPut", spec := "typesPut", unfollowed := true, recurses := true, loops := true, apart := false }
def TypesPutSaid : Prop := typesPutRow.holds Try.pinned (OpenSpec.ofChange typesPutSpec)

/-- ITS FALSE NEIGHBOUR: 'it returns false'. Refute it at one input. -/
def typesPutWrong : ChangeSpec := { name := "typesPut", fn := fun _ => fun
  | [d1, d2] => { results := [.lit (.bool false)], args := [d1, d2] }
  | _ => none }
def TypesPutWrongFalsely : Prop := typesPutRow.holds Try.pinned (OpenSpec.ofChange typesPutWrong)

/-- 'cognatelaw05.TreeMeasures': WHATEVER THE INPUT: true; the input reads as it did. -/
def treeMeasuresSpec : ChangeSpec := { name := "treeMeasures", fn := fun _ => fun
  | [d] => { results := [.lit (.bool true)], args := [d] }
  | _ => none }
def treeMeasuresRow : OpenClaim := { program := "ytjgjnheeohfmmaa", sum := "b9aeb4c4022223ffdb319cfb818b73dcfe84eecdaa40e1bba24bdd5934894b13", func := "cognate/cognatelaw05.TreeMeasures", spec := "treeMeasures", unfollowed := true, recurses := true, loops := true, apart := false }
def TreeMeasuresSaid : Prop := treeMeasuresRow.holds Try.pinned (OpenSpec.ofChange treeMeasuresSpec)

/-- ITS FALSE NEIGHBOUR: 'it returns false'. Refute it at one input. -/
def treeMeasuresWrong : ChangeSpec := { name := "treeMeasures", fn := fun _ => fun
  | [d] => { results := [.lit (.bool false)], args := [d] }
  | _ => none }
def TreeMeasuresWrongFalsely : Prop := treeMeasuresRow.holds Try.pinned (OpenSpec.ofChange treeMeasuresWrong)

/-- 'cognatelaw05.TreeSames': WHATEVER THE INPUT: true; the input reads as it did. -/
def treeSamesSpec : ChangeSpec := { name := "treeSames", fn := fun _ => fun
  | [d1, d2] => { results := [.lit (.bool true)], args := [d1, d2] }
  | _ => none }
def treeSamesRow : OpenClaim := { program := "ytjgjnheeohfmmaa", sum := "b9aeb4c4022223ffdb319cfb818b73dcfe84eecdaa40e1bba24bdd5934894b13", func := "cognate/cognatelaw05.TreeSames", spec := "treeSames", unfollowed := true, recurses := true, loops := true, apart := false }
def TreeSamesSaid : Prop := treeSamesRow.holds Try.pinned (OpenSpec.ofChange treeSamesSpec)

/-- ITS FALSE NEIGHBOUR: 'it returns false'. Refute it at one input. -/
def treeSamesWrong : ChangeSpec := { name := "treeSames", fn := fun _ => fun
  | [d1, d2] => { results := [.lit (.bool false)], args := [d1, d2] }
  | _ => none }
def TreeSamesWrongFalsely : Prop := treeSamesRow.holds Try.pinned (OpenSpec.ofChange treeSamesWrong)

/-- 'cognatelaw05.TreeNames': WHATEVER THE INPUT: true; the input reads as it did. -/
def treeNamesSpec : ChangeSpec := { name := "treeNames", fn := fun _ => fun
  | [d] => { results := [.lit (.bool true)], args := [d] }
  | _ => none }
def treeNamesRow : OpenClaim := { program := "ytjgjnheeohfmmaa", sum := "b9aeb4c4022223ffdb319cfb818b73dcfe84eecdaa40e1bba24bdd5934894b13", func := "cognate/cognatelaw05.TreeNames", spec := "treeNames", unfollowed := true, recurses := true, loops := true, apart := false }
def TreeNamesSaid : Prop := treeNamesRow.holds Try.pinned (OpenSpec.ofChange treeNamesSpec)

/-- ITS FALSE NEIGHBOUR: 'it returns false'. Refute it at one input. -/
def treeNamesWrong : ChangeSpec := { name := "treeNames", fn := fun _ => fun
  | [d] => { results := [.lit (.bool false)], args := [d] }
  | _ => none }
def TreeNamesWrongFalsely : Prop := treeNamesRow.holds Try.pinned (OpenSpec.ofChange treeNamesWrong)

/-- 'cognatelaw05.TreeBinds': WHATEVER THE INPUT: true; the input reads as it did. -/
def treeBindsSpec : ChangeSpec := { name := "treeBinds", fn := fun _ => fun
  | [d1, d2, d3] => { results := [.lit (.bool true)], args := [d1, d2, d3] }
  | _ => none }
def treeBindsRow : OpenClaim := { program := "ytjgjnheeohfmmaa", sum := "b9aeb4c4022223ffdb319cfb818b73dcfe84eecdaa40e1bba24bdd5934894b13", func := "cognate/cognatelaw05.TreeBinds", spec := "treeBinds", unfollowed := true, recurses := true, loops := true, apart := false }
def TreeBindsSaid : Prop := treeBindsRow.holds Try.pinned (OpenSpec.ofChange treeBindsSpec)

/-- ITS FALSE NEIGHBOUR: 'it returns false'. Refute it at one input. -/
def treeBindsWrong : ChangeSpec := { name := "treeBinds", fn := fun _ => fun
  | [d1, d2, d3] => { results := [.lit (.bool false)], args := [d1, d2, d3] }
  | _ => none }
def TreeBindsWrongFalsely : Prop := treeBindsRow.holds Try.pinned (OpenSpec.ofChange treeBindsWrong)

/-- 'cognatelaw05.TreeProgs': WHATEVER THE INPUT: true; the input reads as it did. -/
def treeProgsSpec : ChangeSpec := { name := "treeProgs", fn := fun _ => fun
  | [d1, d2] => { results := [.lit (.bool true)], args := [d1, d2] }
  | _ => none }
def treeProgsRow : OpenClaim := { program := "ytjgjnheeohfmmaa", sum := "b9aeb4c4022223ffdb319cfb818b73dcfe84eecdaa40e1bba24bdd5934894b13", func := "cognate/cognatelaw05.TreeProgs", spec := "treeProgs", unfollowed := true, recurses := true, loops := true, apart := false }
def TreeProgsSaid : Prop := treeProgsRow.holds Try.pinned (OpenSpec.ofChange treeProgsSpec)

/-- ITS FALSE NEIGHBOUR: 'it returns false'. Refute it at one input. -/
def treeProgsWrong : ChangeSpec := { name := "treeProgs", fn := fun _ => fun
  | [d1, d2] => { results := [.lit (.bool false)], args := [d1, d2] }
  | _ => none }
def TreeProgsWrongFalsely : Prop := treeProgsRow.holds Try.pinned (OpenSpec.ofChange treeProgsWrong)

/- THE SECOND FORM. 'bulk': how many values and letters a reading holds, each counted each time it is reached (what is shared counts as often as it is met; a slice's spare places count too). A statement '..UptoSaid' is the law's where the arguments, and the package variables that the reading takes, are together of bulk at most 1048576: NARROWER than '..Said'. Prove '..Said' where nothing that the law and all that it calls make is longer than what came in: it says more and counts as full. Else prove '..UptoSaid'. A law counts once. -/
mutual
def uptoBulk {H : Type} : DataW H → Nat
  | .lit (.string bytes) => bytes.length + 1
  | .lit _ => 1
  | .nil => 1
  | .ptr d => uptoBulk d + 1
  | .slice elems spare => uptoBulkAll elems + uptoBulkAll spare + 1
  | .agg parts => uptoBulkAll parts + 1
  | .iface _ d => uptoBulk d + 1
  | .map entries => uptoBulkEntries entries + 1
  | .held _ => 1
def uptoBulkAll {H : Type} : List (DataW H) → Nat
  | [] => 0
  | d :: r => uptoBulk d + uptoBulkAll r
def uptoBulkEntries {H : Type} : List (Lit × DataW H) → Nat
  | [] => 0
  | x :: r => uptoBulkEntry x + uptoBulkEntries r
def uptoBulkEntry {H : Type} : Lit × DataW H → Nat
  | (.string bytes, d) => bytes.length + uptoBulk d + 1
  | (_, d) => uptoBulk d + 1
 end
def uptoSmall : (H : Type) → List (DataW H) → Bool := fun _ ds => decide (uptoBulkAll ds ≤ 1048576)
def OpenSpec.upto (s : _root_.Go.ChangeSpec) : _root_.Go.OpenSpec := { _root_.Go.OpenSpec.ofChange s with cond := some uptoSmall }

/-- 'cognatelaw08.TypesMatch', WHERE WHAT IT READS IS OF BULK AT MOST 1048576: true; the input reads as it did. -/
def typesMatchUptoRow : OpenClaim := { program := "ytjgjnheeohfmmaa", sum := "b9aeb4c4022223ffdb319cfb818b73dcfe84eecdaa40e1bba24bdd5934894b13", func := "cognate/cognatelaw08.TypesMatch", spec := "typesMatch", unfollowed := true, recurses := true, loops := true, apart := false, narrowed := true }
def TypesMatchUptoSaid : Prop := typesMatchUptoRow.holds Try.pinned (OpenSpec.upto typesMatchSpec)

/-- 'cognatelaw08.TypesBack', WHERE WHAT IT READS IS OF BULK AT MOST 1048576: true; the input reads as it did. -/
def typesBackUptoRow : OpenClaim := { program := "ytjgjnheeohfmmaa", sum := "b9aeb4c4022223ffdb319cfb818b73dcfe84eecdaa40e1bba24bdd5934894b13", func := "cognate/cognatelaw08.TypesBack", spec := "typesBack", unfollowed := true, recurses := true, loops := true, apart := false, narrowed := true }
def TypesBackUptoSaid : Prop := typesBackUptoRow.holds Try.pinned (OpenSpec.upto typesBackSpec)

/-- 'cognatelaw08.TypesAsk', WHERE WHAT IT READS IS OF BULK AT MOST 1048576: true; the input reads as it did. -/
def typesAskUptoRow : OpenClaim := { program := "ytjgjnheeohfmmaa", sum := "b9aeb4c4022223ffdb319cfb818b73dcfe84eecdaa40e1bba24bdd5934894b13", func := "cognate/cognatelaw08.TypesAsk", spec := "typesAsk", unfollowed := true, recurses := true, loops := true, apart := false, narrowed := true }
def TypesAskUptoSaid : Prop := typesAskUptoRow.holds Try.pinned (OpenSpec.upto typesAskSpec)

/-- 'cognatelaw08.TypesPut', WHERE WHAT IT READS IS OF BULK AT MOST 1048576: true; the input reads as it did. -/
def typesPutUptoRow : OpenClaim := { program := "ytjgjnheeohfmmaa", sum := "b9aeb4c4022223ffdb319cfb818b73dcfe84eecdaa40e1bba24bdd5934894b13", func := "cognate/cognatelaw08.TypesPut", spec := "typesPut", unfollowed := true, recurses := true, loops := true, apart := false, narrowed := true }
def TypesPutUptoSaid : Prop := typesPutUptoRow.holds Try.pinned (OpenSpec.upto typesPutSpec)

/-- 'cognatelaw05.TreeMeasures', WHERE WHAT IT READS IS OF BULK AT MOST 1048576: true; the input reads as it did. -/
def treeMeasuresUptoRow : OpenClaim := { program := "ytjgjnheeohfmmaa", sum := "b9aeb4c4022223ffdb319cfb818b73dcfe84eecdaa40e1bba24bdd5934894b13", func := "cognate/cognatelaw05.TreeMeasures", spec := "treeMeasures", unfollowed := true, recurses := true, loops := true, apart := false, narrowed := true }
def TreeMeasuresUptoSaid : Prop := treeMeasuresUptoRow.holds Try.pinned (OpenSpec.upto treeMeasuresSpec)

/-- 'cognatelaw05.TreeSames', WHERE WHAT IT READS IS OF BULK AT MOST 1048576: true; the input reads as it did. -/
def treeSamesUptoRow : OpenClaim := { program := "ytjgjnheeohfmmaa", sum := "b9aeb4c4022223ffdb319cfb818b73dcfe84eecdaa40e1bba24bdd5934894b13", func := "cognate/cognatelaw05.TreeSames", spec := "treeSames", unfollowed := true, recurses := true, loops := true, apart := false, narrowed := true }
def TreeSamesUptoSaid : Prop := treeSamesUptoRow.holds Try.pinned (OpenSpec.upto treeSamesSpec)

/-- 'cognatelaw05.TreeNames', WHERE WHAT IT READS IS OF BULK AT MOST 1048576: true; the input reads as it did. -/
def treeNamesUptoRow : OpenClaim := { program := "ytjgjnheeohfmmaa", sum := "b9aeb4c4022223ffdb319cfb818b73dcfe84eecdaa40e1bba24bdd5934894b13", func := "cognate/cognatelaw05.TreeNames", spec := "treeNames", unfollowed := true, recurses := true, loops := true, apart := false, narrowed := true }
def TreeNamesUptoSaid : Prop := treeNamesUptoRow.holds Try.pinned (OpenSpec.upto treeNamesSpec)

/-- 'cognatelaw05.TreeBinds', WHERE WHAT IT READS IS OF BULK AT MOST 1048576: true; the input reads as it did. -/
def treeBindsUptoRow : OpenClaim := { program := "ytjgjnheeohfmmaa", sum := "b9aeb4c4022223ffdb319cfb818b73dcfe84eecdaa40e1bba24bdd5934894b13", func := "cognate/cognatelaw05.TreeBinds", spec := "treeBinds", unfollowed := true, recurses := true, loops := true, apart := false, narrowed := true }
def TreeBindsUptoSaid : Prop := treeBindsUptoRow.holds Try.pinned (OpenSpec.upto treeBindsSpec)

/-- 'cognatelaw05.TreeProgs', WHERE WHAT IT READS IS OF BULK AT MOST 1048576: true; the input reads as it did. -/
def treeProgsUptoRow : OpenClaim := { program := "ytjgjnheeohfmmaa", sum := "b9aeb4c4022223ffdb319cfb818b73dcfe84eecdaa40e1bba24bdd5934894b13", func := "cognate/cognatelaw05.TreeProgs", spec := "treeProgs", unfollowed := true, recurses := true, loops := true, apart := false, narrowed := true }
def TreeProgsUptoSaid : Prop := treeProgsUptoRow.holds Try.pinned (OpenSpec.upto treeProgsSpec)

end Rows
end Go.Proofs.Ytjgjnheeohfmmaa
