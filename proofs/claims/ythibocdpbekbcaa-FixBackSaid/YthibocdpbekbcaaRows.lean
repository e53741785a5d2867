/-
  No cell of these rows narrows 'for every input' (looked for: loops, veiled, ifaces, maps, wideKeys, modest, calm, conditions, laid).
  DERIVED. THE GIVEN ROWS OF THIS SEAT. 12 by the template 'for every input the law returns true; each argument reads behind the call as it read before'; 0 by the template 'total and deterministic' (their statements: YthibocdpbekbcaaTotals.lean).
  GIVEN WITH THE SEED: the statements are not yours to turn. If you find one false, say at which input.
  Laid BY PROGRAM, IN A SANDBOX (cutbox-rows.mjs): the forced cells as the released guide's own fill.sh prints them over the translation abb0a7e04d675ea7… (all of the seat's roots in one cut). By AI agents, Wed Nov 11 2026. No macro, syntax, notation, axiom, sorry.
-/
import Derived.Test.YthibocdpbekbcaaChecked
import GoSem.Claim
import GoSem.ClaimJoined
import GoSem.ClaimMapViews
import Derived.JoinedTies
import Derived.KernelRfl
namespace Go.Proofs.Ythibocdpbekbcaa
/- THE CELL 'sum', in the pinned program and in every row, IS THE sha256 OF THE DUMP (.gsa) THAT YthibocdpbekbcaaProg.lean LOADS. Nothing in Lean hashes anything: it is a label: what it is worth is what the hold of that sum in a sandbox is worth. -/
noncomputable def Try.pinned : Pinned := { name := "ythibocdpbekbcaa", sum := "abb0a7e04d675ea73595a417c3b22ab071755bd9fa0b5351be67053820df11ef", checked := Try.checked }
namespace Rows
def none {H : Type} : Left H := { results := [], args := [] }

/-- 'cognatelaw02.WordInts': WHATEVER THE INPUT: true; the input reads as it did. -/
def wordIntsSpec : ChangeSpec := { name := "wordInts", fn := fun _ => fun
  | [d1, d2] => { results := [.lit (.bool true)], args := [d1, d2] }
  | _ => none }
def wordIntsRow : OpenClaim := { program := "ythibocdpbekbcaa", sum := "abb0a7e04d675ea73595a417c3b22ab071755bd9fa0b5351be67053820df11ef", func := "cognate/cognatelaw02.WordInts", spec := "wordInts", apart := false }
def WordIntsSaid : Prop := wordIntsRow.holds Try.pinned (OpenSpec.ofChange wordIntsSpec)

/-- ITS FALSE NEIGHBOUR: 'it returns false'. Refute it at one input. -/
def wordIntsWrong : ChangeSpec := { name := "wordInts", fn := fun _ => fun
  | [d1, d2] => { results := [.lit (.bool false)], args := [d1, d2] }
  | _ => none }
def WordIntsWrongFalsely : Prop := wordIntsRow.holds Try.pinned (OpenSpec.ofChange wordIntsWrong)

/-- 'cognatelaw02.WordPtrs': WHATEVER THE INPUT: true; the input reads as it did. -/
def wordPtrsSpec : ChangeSpec := { name := "wordPtrs", fn := fun _ => fun
  | [d1, d2] => { results := [.lit (.bool true)], args := [d1, d2] }
  | _ => none }
def wordPtrsRow : OpenClaim := { program := "ythibocdpbekbcaa", sum := "abb0a7e04d675ea73595a417c3b22ab071755bd9fa0b5351be67053820df11ef", func := "cognate/cognatelaw02.WordPtrs", spec := "wordPtrs", apart := false }
def WordPtrsSaid : Prop := wordPtrsRow.holds Try.pinned (OpenSpec.ofChange wordPtrsSpec)

/-- ITS FALSE NEIGHBOUR: 'it returns false'. Refute it at one input. -/
def wordPtrsWrong : ChangeSpec := { name := "wordPtrs", fn := fun _ => fun
  | [d1, d2] => { results := [.lit (.bool false)], args := [d1, d2] }
  | _ => none }
def WordPtrsWrongFalsely : Prop := wordPtrsRow.holds Try.pinned (OpenSpec.ofChange wordPtrsWrong)

/-- 'cognatelaw02.WordHeads': WHATEVER THE INPUT: true; the input reads as it did. -/
def wordHeadsSpec : ChangeSpec := { name := "wordHeads", fn := fun _ => fun
  | [d1, d2] => { results := [.lit (.bool true)], args := [d1, d2] }
  | _ => none }
def wordHeadsRow : OpenClaim := { program := "ythibocdpbekbcaa", sum := "abb0a7e04d675ea73595a417c3b22ab071755bd9fa0b5351be67053820df11ef", func := "cognate/cognatelaw02.WordHeads", spec := "wordHeads", apart := false }
def WordHeadsSaid : Prop := wordHeadsRow.holds Try.pinned (OpenSpec.ofChange wordHeadsSpec)

/-- ITS FALSE NEIGHBOUR: 'it returns false'. Refute it at one input. -/
def wordHeadsWrong : ChangeSpec := { name := "wordHeads", fn := fun _ => fun
  | [d1, d2] => { results := [.lit (.bool false)], args := [d1, d2] }
  | _ => none }
def WordHeadsWrongFalsely : Prop := wordHeadsRow.holds Try.pinned (OpenSpec.ofChange wordHeadsWrong)

/-- 'cognatelaw01.Int63Sums': WHATEVER THE INPUT: true; the input reads as it did. -/
def int63SumsSpec : ChangeSpec := { name := "int63Sums", fn := fun _ => fun
  | [d1, d2] => { results := [.lit (.bool true)], args := [d1, d2] }
  | _ => none }
def int63SumsRow : OpenClaim := { program := "ythibocdpbekbcaa", sum := "abb0a7e04d675ea73595a417c3b22ab071755bd9fa0b5351be67053820df11ef", func := "cognate/cognatelaw01.Int63Sums", spec := "int63Sums", apart := false }
def Int63SumsSaid : Prop := int63SumsRow.holds Try.pinned (OpenSpec.ofChange int63SumsSpec)

/-- ITS FALSE NEIGHBOUR: 'it returns false'. Refute it at one input. -/
def int63SumsWrong : ChangeSpec := { name := "int63Sums", fn := fun _ => fun
  | [d1, d2] => { results := [.lit (.bool false)], args := [d1, d2] }
  | _ => none }
def Int63SumsWrongFalsely : Prop := int63SumsRow.holds Try.pinned (OpenSpec.ofChange int63SumsWrong)

/-- 'cognatelaw02.WordTexts': WHATEVER THE INPUT: true; the input reads as it did. -/
def wordTextsSpec : ChangeSpec := { name := "wordTexts", fn := fun _ => fun
  | [d1, d2, d3] => { results := [.lit (.bool true)], args := [d1, d2, d3] }
  | _ => none }
def wordTextsRow : OpenClaim := { program := "ythibocdpbekbcaa", sum := "abb0a7e04d675ea73595a417c3b22ab071755bd9fa0b5351be67053820df11ef", func := "cognate/cognatelaw02.WordTexts", spec := "wordTexts", apart := false }
def WordTextsSaid : Prop := wordTextsRow.holds Try.pinned (OpenSpec.ofChange wordTextsSpec)

/-- ITS FALSE NEIGHBOUR: 'it returns false'. Refute it at one input. -/
def wordTextsWrong : ChangeSpec := { name := "wordTexts", fn := fun _ => fun
  | [d1, d2, d3] => { results := [.lit (.bool false)], args := [d1, d2, d3] }
  | _ => none }
def WordTextsWrongFalsely : Prop := wordTextsRow.holds Try.pinned (OpenSpec.ofChange wordTextsWrong)

/-- 'cognatelaw01.Int63Quos': WHATEVER THE INPUT: true; the input reads as it did. -/
def int63QuosSpec : ChangeSpec := { name := "int63Quos", fn := fun _ => fun
  | [d1, d2] => { results := [.lit (.bool true)], args := [d1, d2] }
  | _ => none }
def int63QuosRow : OpenClaim := { program := "ythibocdpbekbcaa", sum := "abb0a7e04d675ea73595a417c3b22ab071755bd9fa0b5351be67053820df11ef", func := "cognate/cognatelaw01.Int63Quos", spec := "int63Quos", apart := false }
def Int63QuosSaid : Prop := int63QuosRow.holds Try.pinned (OpenSpec.ofChange int63QuosSpec)

/-- ITS FALSE NEIGHBOUR: 'it returns false'. Refute it at one input. -/
def int63QuosWrong : ChangeSpec := { name := "int63Quos", fn := fun _ => fun
  | [d1, d2] => { results := [.lit (.bool false)], args := [d1, d2] }
  | _ => none }
def Int63QuosWrongFalsely : Prop := int63QuosRow.holds Try.pinned (OpenSpec.ofChange int63QuosWrong)

/-- 'cognatelaw01.Int63Wraps': WHATEVER THE INPUT: true; the input reads as it did. -/
def int63WrapsSpec : ChangeSpec := { name := "int63Wraps", fn := fun _ => fun
  | [d1, d2] => { results := [.lit (.bool true)], args := [d1, d2] }
  | _ => none }
def int63WrapsRow : OpenClaim := { program := "ythibocdpbekbcaa", sum := "abb0a7e04d675ea73595a417c3b22ab071755bd9fa0b5351be67053820df11ef", func := "cognate/cognatelaw01.Int63Wraps", spec := "int63Wraps", apart := false }
def Int63WrapsSaid : Prop := int63WrapsRow.holds Try.pinned (OpenSpec.ofChange int63WrapsSpec)

/-- ITS FALSE NEIGHBOUR: 'it returns false'. Refute it at one input. -/
def int63WrapsWrong : ChangeSpec := { name := "int63Wraps", fn := fun _ => fun
  | [d1, d2] => { results := [.lit (.bool false)], args := [d1, d2] }
  | _ => none }
def Int63WrapsWrongFalsely : Prop := int63WrapsRow.holds Try.pinned (OpenSpec.ofChange int63WrapsWrong)

/-- 'cognatelaw04.FixOrders': WHATEVER THE INPUT: true; the input reads as it did. -/
def fixOrdersSpec : ChangeSpec := { name := "fixOrders", fn := fun _ => fun
  | [d] => { results := [.lit (.bool true)], args := [d] }
  | _ => none }
def fixOrdersRow : OpenClaim := { program := "ythibocdpbekbcaa", sum := "abb0a7e04d675ea73595a417c3b22ab071755bd9fa0b5351be67053820df11ef", func := "cognate/cognatelaw04.FixOrders", spec := "fixOrders", recurses := true, apart := false }
def FixOrdersSaid : Prop := fixOrdersRow.holds Try.pinned (OpenSpec.ofChange fixOrdersSpec)

/-- ITS FALSE NEIGHBOUR: 'it returns false'. Refute it at one input. -/
def fixOrdersWrong : ChangeSpec := { name := "fixOrders", fn := fun _ => fun
  | [d] => { results := [.lit (.bool false)], args := [d] }
  | _ => none }
def FixOrdersWrongFalsely : Prop := fixOrdersRow.holds Try.pinned (OpenSpec.ofChange fixOrdersWrong)

/-- 'cognatelaw02.WordBack': WHATEVER THE INPUT: true; the input reads as it did. -/
def wordBackSpec : ChangeSpec := { name := "wordBack", fn := fun _ => fun
  | [d1, d2, d3] => { results := [.lit (.bool true)], args := [d1, d2, d3] }
  | _ => none }
def wordBackRow : OpenClaim := { program := "ythibocdpbekbcaa", sum := "abb0a7e04d675ea73595a417c3b22ab071755bd9fa0b5351be67053820df11ef", func := "cognate/cognatelaw02.WordBack", spec := "wordBack", apart := false }
def WordBackSaid : Prop := wordBackRow.holds Try.pinned (OpenSpec.ofChange wordBackSpec)

/-- ITS FALSE NEIGHBOUR: 'it returns false'. Refute it at one input. -/
def wordBackWrong : ChangeSpec := { name := "wordBack", fn := fun _ => fun
  | [d1, d2, d3] => { results := [.lit (.bool false)], args := [d1, d2, d3] }
  | _ => none }
def WordBackWrongFalsely : Prop := wordBackRow.holds Try.pinned (OpenSpec.ofChange wordBackWrong)

/-- 'cognatelaw04.FixLevels': WHATEVER THE INPUT: true; the input reads as it did. -/
def fixLevelsSpec : ChangeSpec := { name := "fixLevels", fn := fun _ => fun
  | [d1, d2, d3] => { results := [.lit (.bool true)], args := [d1, d2, d3] }
  | _ => none }
def fixLevelsRow : OpenClaim := { program := "ythibocdpbekbcaa", sum := "abb0a7e04d675ea73595a417c3b22ab071755bd9fa0b5351be67053820df11ef", func := "cognate/cognatelaw04.FixLevels", spec := "fixLevels", apart := false }
def FixLevelsSaid : Prop := fixLevelsRow.holds Try.pinned (OpenSpec.ofChange fixLevelsSpec)

/-- ITS FALSE NEIGHBOUR: 'it returns false'. Refute it at one input. -/
def fixLevelsWrong : ChangeSpec := { name := "fixLevels", fn := fun _ => fun
  | [d1, d2, d3] => { results := [.lit (.bool false)], args := [d1, d2, d3] }
  | _ => none }
def FixLevelsWrongFalsely : Prop := fixLevelsRow.holds Try.pinned (OpenSpec.ofChange fixLevelsWrong)

/-- 'cognatelaw04.FixBack': WHATEVER THE INPUT: true; the input reads as it did. -/
def fixBackSpec : ChangeSpec := { name := "fixBack", fn := fun _ => fun
  | [d] => { results := [.lit (.bool true)], args := [d] }
  | _ => none }
def fixBackRow : OpenClaim := { program := "ythibocdpbekbcaa", sum := "abb0a7e04d675ea73595a417c3b22ab071755bd9fa0b5351be67053820df11ef", func := "cognate/cognatelaw04.FixBack", spec := "fixBack", apart := false }
def FixBackSaid : Prop := fixBackRow.holds Try.pinned (OpenSpec.ofChange fixBackSpec)

/-- ITS FALSE NEIGHBOUR: 'it returns false'. Refute it at one input. -/
def fixBackWrong : ChangeSpec := { name := "fixBack", fn := fun _ => fun
  | [d] => { results := [.lit (.bool false)], args := [d] }
  | _ => none }
def FixBackWrongFalsely : Prop := fixBackRow.holds Try.pinned (OpenSpec.ofChange fixBackWrong)

/-- 'cognatelaw01.Int63Back': WHATEVER THE INPUT: true; the input reads as it did. -/
def int63BackSpec : ChangeSpec := { name := "int63Back", fn := fun _ => fun
  | [d1, d2, d3] => { results := [.lit (.bool true)], args := [d1, d2, d3] }
  | _ => none }
def int63BackRow : OpenClaim := { program := "ythibocdpbekbcaa", sum := "abb0a7e04d675ea73595a417c3b22ab071755bd9fa0b5351be67053820df11ef", func := "cognate/cognatelaw01.Int63Back", spec := "int63Back", apart := false }
def Int63BackSaid : Prop := int63BackRow.holds Try.pinned (OpenSpec.ofChange int63BackSpec)

/-- ITS FALSE NEIGHBOUR: 'it returns false'. Refute it at one input. -/
def int63BackWrong : ChangeSpec := { name := "int63Back", fn := fun _ => fun
  | [d1, d2, d3] => { results := [.lit (.bool false)], args := [d1, d2, d3] }
  | _ => none }
def Int63BackWrongFalsely : Prop := int63BackRow.holds Try.pinned (OpenSpec.ofChange int63BackWrong)

/- THE SECOND FORM. 'bulk': how many values and letters a reading holds, each counted each time it is reached (what is shared counts as often as it is met; a slice's spare places count too). A statement '..UptoSaid' is the law's where the arguments, and the package variables that the reading takes, are together of bulk at most 1048576: NARROWER than '..Said'. Prove '..Said' where nothing that the law and all that it calls make is longer than what came in: it says more and counts as full. Else prove '..UptoSaid'. A law counts once. -/
mutual
def uptoBulk {H : Type} : DataW H → Nat
  | .lit (.string bytes) => bytes.length + 1
  | .lit _ => 1
  | .nil => 1
  | .ptr d => uptoBulk d + 1
  | .slice elems spare => uptoBulkAll elems + uptoBulkAll spare + 1
  | .agg parts => uptoBulkAll parts + 1
  | .iface _ d => uptoBulk d + 1
  | .map entries => uptoBulkEntries entries + 1
  | .held _ => 1
def uptoBulkAll {H : Type} : List (DataW H) → Nat
  | [] => 0
  | d :: r => uptoBulk d + uptoBulkAll r
def uptoBulkEntries {H : Type} : List (Lit × DataW H) → Nat
  | [] => 0
  | x :: r => uptoBulkEntry x + uptoBulkEntries r
def uptoBulkEntry {H : Type} : Lit × DataW H → Nat
  | (.string bytes, d) => bytes.length + uptoBulk d + 1
  | (_, d) => uptoBulk d + 1
 end
def uptoSmall : (H : Type) → List (DataW H) → Bool := fun _ ds => decide (uptoBulkAll ds ≤ 1048576)
def OpenSpec.upto (s : _root_.Go.ChangeSpec) : _root_.Go.OpenSpec := { _root_.Go.OpenSpec.ofChange s with cond := some uptoSmall }

/-- 'cognatelaw02.WordInts', WHERE WHAT IT READS IS OF BULK AT MOST 1048576: true; the input reads as it did. -/
def wordIntsUptoRow : OpenClaim := { program := "ythibocdpbekbcaa", sum := "abb0a7e04d675ea73595a417c3b22ab071755bd9fa0b5351be67053820df11ef", func := "cognate/cognatelaw02.WordInts", spec := "wordInts", apart := false, narrowed := true }
def WordIntsUptoSaid : Prop := wordIntsUptoRow.holds Try.pinned (OpenSpec.upto wordIntsSpec)

/-- 'cognatelaw02.WordPtrs', WHERE WHAT IT READS IS OF BULK AT MOST 1048576: true; the input reads as it did. -/
def wordPtrsUptoRow : OpenClaim := { program := "ythibocdpbekbcaa", sum := "abb0a7e04d675ea73595a417c3b22ab071755bd9fa0b5351be67053820df11ef", func := "cognate/cognatelaw02.WordPtrs", spec := "wordPtrs", apart := false, narrowed := true }
def WordPtrsUptoSaid : Prop := wordPtrsUptoRow.holds Try.pinned (OpenSpec.upto wordPtrsSpec)

/-- 'cognatelaw02.WordHeads', WHERE WHAT IT READS IS OF BULK AT MOST 1048576: true; the input reads as it did. -/
def wordHeadsUptoRow : OpenClaim := { program := "ythibocdpbekbcaa", sum := "abb0a7e04d675ea73595a417c3b22ab071755bd9fa0b5351be67053820df11ef", func := "cognate/cognatelaw02.WordHeads", spec := "wordHeads", apart := false, narrowed := true }
def WordHeadsUptoSaid : Prop := wordHeadsUptoRow.holds Try.pinned (OpenSpec.upto wordHeadsSpec)

/-- 'cognatelaw01.Int63Sums', WHERE WHAT IT READS IS OF BULK AT MOST 1048576: true; the input reads as it did. -/
def int63SumsUptoRow : OpenClaim := { program := "ythibocdpbekbcaa", sum := "abb0a7e04d675ea73595a417c3b22ab071755bd9fa0b5351be67053820df11ef", func := "cognate/cognatelaw01.Int63Sums", spec := "int63Sums", apart := false, narrowed := true }
def Int63SumsUptoSaid : Prop := int63SumsUptoRow.holds Try.pinned (OpenSpec.upto int63SumsSpec)

/-- 'cognatelaw02.WordTexts', WHERE WHAT IT READS IS OF BULK AT MOST 1048576: true; the input reads as it did. -/
def wordTextsUptoRow : OpenClaim := { program := "ythibocdpbekbcaa", sum := "abb0a7e04d675ea73595a417c3b22ab071755bd9fa0b5351be67053820df11ef", func := "cognate/cognatelaw02.WordTexts", spec := "wordTexts", apart := false, narrowed := true }
def WordTextsUptoSaid : Prop := wordTextsUptoRow.holds Try.pinned (OpenSpec.upto wordTextsSpec)

/-- 'cognatelaw01.Int63Quos', WHERE WHAT IT READS IS OF BULK AT MOST 1048576: true; the input reads as it did. -/
def int63QuosUptoRow : OpenClaim := { program := "ythibocdpbekbcaa", sum := "abb0a7e04d675ea73595a417c3b22ab071755bd9fa0b5351be67053820df11ef", func := "cognate/cognatelaw01.Int63Quos", spec := "int63Quos", apart := false, narrowed := true }
def Int63QuosUptoSaid : Prop := int63QuosUptoRow.holds Try.pinned (OpenSpec.upto int63QuosSpec)

/-- 'cognatelaw01.Int63Wraps', WHERE WHAT IT READS IS OF BULK AT MOST 1048576: true; the input reads as it did. -/
def int63WrapsUptoRow : OpenClaim := { program := "ythibocdpbekbcaa", sum := "abb0a7e04d675ea73595a417c3b22ab071755bd9fa0b5351be67053820df11ef", func := "cognate/cognatelaw01.Int63Wraps", spec := "int63Wraps", apart := false, narrowed := true }
def Int63WrapsUptoSaid : Prop := int63WrapsUptoRow.holds Try.pinned (OpenSpec.upto int63WrapsSpec)

/-- 'cognatelaw04.FixOrders', WHERE WHAT IT READS IS OF BULK AT MOST 1048576: true; the input reads as it did. -/
def fixOrdersUptoRow : OpenClaim := { program := "ythibocdpbekbcaa", sum := "abb0a7e04d675ea73595a417c3b22ab071755bd9fa0b5351be67053820df11ef", func := "cognate/cognatelaw04.FixOrders", spec := "fixOrders", recurses := true, apart := false, narrowed := true }
def FixOrdersUptoSaid : Prop := fixOrdersUptoRow.holds Try.pinned (OpenSpec.upto fixOrdersSpec)

/-- 'cognatelaw02.WordBack', WHERE WHAT IT READS IS OF BULK AT MOST 1048576: true; the input reads as it did. -/
def wordBackUptoRow : OpenClaim := { program := "ythibocdpbekbcaa", sum := "abb0a7e04d675ea73595a417c3b22ab071755bd9fa0b5351be67053820df11ef", func := "cognate/cognatelaw02.WordBack", spec := "wordBack", apart := false, narrowed := true }
def WordBackUptoSaid : Prop := wordBackUptoRow.holds Try.pinned (OpenSpec.upto wordBackSpec)

/-- 'cognatelaw04.FixLevels', WHERE WHAT IT READS IS OF BULK AT MOST 1048576: true; the input reads as it did. -/
def fixLevelsUptoRow : OpenClaim := { program := "ythibocdpbekbcaa", sum := "abb0a7e04d675ea73595a417c3b22ab071755bd9fa0b5351be67053820df11ef", func := "cognate/cognatelaw04.FixLevels", spec := "fixLevels", apart := false, narrowed := true }
def FixLevelsUptoSaid : Prop := fixLevelsUptoRow.holds Try.pinned (OpenSpec.upto fixLevelsSpec)

/-- 'cognatelaw04.FixBack', WHERE WHAT IT READS IS OF BULK AT MOST 1048576: true; the input reads as it did. -/
def fixBackUptoRow : OpenClaim := { program := "ythibocdpbekbcaa", sum := "abb0a7e04d675ea73595a417c3b22ab071755bd9fa0b5351be67053820df11ef", func := "cognate/cognatelaw04.FixBack", spec := "fixBack", apart := false, narrowed := true }
def FixBackUptoSaid : Prop := fixBackUptoRow.holds Try.pinned (OpenSpec.upto fixBackSpec)

/-- 'cognatelaw01.Int63Back', WHERE WHAT IT READS IS OF BULK AT MOST 1048576: true; the input reads as it did. -/
def int63BackUptoRow : OpenClaim := { program := "ythibocdpbekbcaa", sum := "abb0a7e04d675ea73595a417c3b22ab071755bd9fa0b5351be67053820df11ef", func := "cognate/cognatelaw01.Int63Back", spec := "int63Back", apart := false, narrowed := true }
def Int63BackUptoSaid : Prop := int63BackUptoRow.holds Try.pinned (OpenSpec.upto int63BackSpec)

end Rows
end Go.Proofs.Ythibocdpbekbcaa
