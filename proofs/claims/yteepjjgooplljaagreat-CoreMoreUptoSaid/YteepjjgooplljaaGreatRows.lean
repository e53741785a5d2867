/-
  NARROWER THAN 'FOR EVERY INPUT', by the rows' own cells (each row's printed sentence says how): CoreSames: loops · CoreChecks: loops · CoreMore: loops · CorePut: loops.
  DERIVED. THE GIVEN ROWS OF THIS SEAT. 4 by the template 'for every input the law returns true; each argument reads behind the call as it read before'; 0 by the template 'total and deterministic' (their statements: YteepjjgooplljaaGreatTotals.lean).
  GIVEN WITH THE SEED: the statements are not yours to turn. If you find one false, say at which input.
  Laid BY PROGRAM, IN A SANDBOX (cutbox-rows.mjs): the forced cells as the released guide's own fill.sh prints them over the translation 22dc62d46be1d4d0… (all of the seat's roots in one cut). By AI agents, Wed Nov 11 2026. No macro, syntax, notation, axiom, sorry.
-/
import Derived.Test.YteepjjgooplljaaGreatChecked
import GoSem.Claim
import GoSem.ClaimJoined
import GoSem.ClaimMapViews
import Derived.JoinedTies
import Derived.KernelRfl
namespace Go.Proofs.YteepjjgooplljaaGreat
/- THE CELL 'sum', in the pinned program and in every row, IS THE sha256 OF THE DUMP (.gsa) THAT YteepjjgooplljaaGreatProg.lean LOADS. Nothing in Lean hashes anything: it is a label: what it is worth is what the hold of that sum in a sandbox is worth. -/
noncomputable def Tryz.pinned : Pinned := { name := "yteepjjgooplljaagreat", sum := "22dc62d46be1d4d0e991c4df161e2dff0a6bbdf715f69a67643f87d084337750", checked := Tryz.checked }
namespace Rows
def none {H : Type} : Left H := { results := [], args := [] }

/-- 'cognatelaw21.CoreSames': WHATEVER THE INPUT: true; the input reads as it did. -/
def coreSamesSpec : ChangeSpec := { name := "coreSames", fn := fun _ => fun
  | [d1, d2] => { results := [.lit (.bool true)], args := [d1, d2] }
  | _ => none }
def coreSamesRow : OpenClaim := { program := "yteepjjgooplljaagreat", sum := "22dc62d46be1d4d0e991c4df161e2dff0a6bbdf715f69a67643f87d084337750", func := "cognate/cognatelaw21.CoreSames", spec := "coreSames", unfollowed := true, recurses := true, loops := true, apart := false }
def CoreSamesSaid : Prop := coreSamesRow.holds Tryz.pinned (OpenSpec.ofChange coreSamesSpec)

/-- ITS FALSE NEIGHBOUR: 'it returns false'. Refute it at one input. -/
def coreSamesWrong : ChangeSpec := { name := "coreSames", fn := fun _ => fun
  | [d1, d2] => { results := [.lit (.bool false)], args := [d1, d2] }
  | _ => none }
def CoreSamesWrongFalsely : Prop := coreSamesRow.holds Tryz.pinned (OpenSpec.ofChange coreSamesWrong)

/-- 'cognatelaw21.CoreChecks': WHATEVER THE INPUT: true; the input reads as it did. -/
def coreChecksSpec : ChangeSpec := { name := "coreChecks", fn := fun _ => fun
  | [d1, d2] => { results := [.lit (.bool true)], args := [d1, d2] }
  | _ => none }
def coreChecksRow : OpenClaim := { program := "yteepjjgooplljaagreat", sum := "22dc62d46be1d4d0e991c4df161e2dff0a6bbdf715f69a67643f87d084337750", func := "cognate/cognatelaw21.CoreChecks", spec := "coreChecks", unfollowed := true, recurses := true, loops := true, apart := false }
def CoreChecksSaid : Prop := coreChecksRow.holds Tryz.pinned (OpenSpec.ofChange coreChecksSpec)

/-- ITS FALSE NEIGHBOUR: 'it returns false'. Refute it at one input. -/
def coreChecksWrong : ChangeSpec := { name := "coreChecks", fn := fun _ => fun
  | [d1, d2] => { results := [.lit (.bool false)], args := [d1, d2] }
  | _ => none }
def CoreChecksWrongFalsely : Prop := coreChecksRow.holds Tryz.pinned (OpenSpec.ofChange coreChecksWrong)

/-- 'cognatelaw21.CoreMore': WHATEVER THE INPUT: true; the input reads as it did. -/
def coreMoreSpec : ChangeSpec := { name := "coreMore", fn := fun _ => fun
  | [d1, d2, d3] => { results := [.lit (.bool true)], args := [d1, d2, d3] }
  | _ => none }
def coreMoreRow : OpenClaim := { program := "yteepjjgooplljaagreat", sum := "22dc62d46be1d4d0e991c4df161e2dff0a6bbdf715f69a67643f87d084337750", func := "cognate/cognatelaw21.CoreMore", spec := "coreMore", unfollowed := true, recurses := true, loops := true, apart := false }
def CoreMoreSaid : Prop := coreMoreRow.holds Tryz.pinned (OpenSpec.ofChange coreMoreSpec)

/-- ITS FALSE NEIGHBOUR: 'it returns false'. Refute it at one input. -/
def coreMoreWrong : ChangeSpec := { name := "coreMore", fn := fun _ => fun
  | [d1, d2, d3] => { results := [.lit (.bool false)], args := [d1, d2, d3] }
  | _ => none }
def CoreMoreWrongFalsely : Prop := coreMoreRow.holds Tryz.pinned (OpenSpec.ofChange coreMoreWrong)

/-- 'cognatelaw21.CorePut': WHATEVER THE INPUT: true; the input reads as it did. -/
def corePutSpec : ChangeSpec := { name := "corePut", fn := fun _ => fun
  | [d1, d2, d3] => { results := [.lit (.bool true)], args := [d1, d2, d3] }
  | _ => none }
def corePutRow : OpenClaim := { program := "yteepjjgooplljaagreat", sum := "22dc62d46be1d4d0e991c4df161e2dff0a6bbdf715f69a67643f87d084337750", func := "cognate/cognatelaw21.CorePut", spec := "corePut", unfollowed := true, recurses := true, loops := true, apart := false }
def CorePutSaid : Prop := corePutRow.holds Tryz.pinned (OpenSpec.ofChange corePutSpec)

/-- ITS FALSE NEIGHBOUR: 'it returns false'. Refute it at one input. -/
def corePutWrong : ChangeSpec := { name := "corePut", fn := fun _ => fun
  | [d1, d2, d3] => { results := [.lit (.bool false)], args := [d1, d2, d3] }
  | _ => none }
def CorePutWrongFalsely : Prop := corePutRow.holds Tryz.pinned (OpenSpec.ofChange corePutWrong)

/- THE SECOND FORM. 'bulk': how many values and letters a reading holds, each counted each time it is reached (what is shared counts as often as it is met; a slice's spare places count too). A statement '..UptoSaid' is the law's where the arguments, and the package variables that the reading takes, are together of bulk at most 1048576: NARROWER than '..Said'. Prove '..Said' where nothing that the law and all that it calls make is longer than what came in: it says more and counts as full. Else prove '..UptoSaid'. A law counts once. -/
mutual
def uptoBulk {H : Type} : DataW H → Nat
  | .lit (.string bytes) => bytes.length + 1
  | .lit _ => 1
  | .nil => 1
  | .ptr d => uptoBulk d + 1
  | .slice elems spare => uptoBulkAll elems + uptoBulkAll spare + 1
  | .agg parts => uptoBulkAll parts + 1
  | .iface _ d => uptoBulk d + 1
  | .map entries => uptoBulkEntries entries + 1
  | .held _ => 1
def uptoBulkAll {H : Type} : List (DataW H) → Nat
  | [] => 0
  | d :: r => uptoBulk d + uptoBulkAll r
def uptoBulkEntries {H : Type} : List (Lit × DataW H) → Nat
  | [] => 0
  | x :: r => uptoBulkEntry x + uptoBulkEntries r
def uptoBulkEntry {H : Type} : Lit × DataW H → Nat
  | (.string bytes, d) => bytes.length + uptoBulk d + 1
  | (_, d) => uptoBulk d + 1
 end
def uptoSmall : (H : Type) → List (DataW H) → Bool := fun _ ds => decide (uptoBulkAll ds ≤ 1048576)
def OpenSpec.upto (s : _root_.Go.ChangeSpec) : _root_.Go.OpenSpec := { _root_.Go.OpenSpec.ofChange s with cond := some uptoSmall }

/-- 'cognatelaw21.CoreSames', WHERE WHAT IT READS IS OF BULK AT MOST 1048576: true; the input reads as it did. -/
def coreSamesUptoRow : OpenClaim := { program := "yteepjjgooplljaagreat", sum := "22dc62d46be1d4d0e991c4df161e2dff0a6bbdf715f69a67643f87d084337750", func := "cognate/cognatelaw21.CoreSames", spec := "coreSames", unfollowed := true, recurses := true, loops := true, apart := false, narrowed := true }
def CoreSamesUptoSaid : Prop := coreSamesUptoRow.holds Tryz.pinned (OpenSpec.upto coreSamesSpec)

/-- 'cognatelaw21.CoreChecks', WHERE WHAT IT READS IS OF BULK AT MOST 1048576: true; the input reads as it did. -/
def coreChecksUptoRow : OpenClaim := { program := "yteepjjgooplljaagreat", sum := "22dc62d46be1d4d0e991c4df161e2dff0a6bbdf715f69a67643f87d084337750", func := "cognate/cognatelaw21.CoreChecks", spec := "coreChecks", unfollowed := true, recurses := true, loops := true, apart := false, narrowed := true }
def CoreChecksUptoSaid : Prop := coreChecksUptoRow.holds Tryz.pinned (OpenSpec.upto coreChecksSpec)

/-- 'cognatelaw21.CoreMore', WHERE WHAT IT READS IS OF BULK AT MOST 1048576: true; the input reads as it did. -/
def coreMoreUptoRow : OpenClaim := { program := "yteepjjgooplljaagreat", sum := "22dc62d46be1d4d0e991c4df161e2dff0a6bbdf715f69a67643f87d084337750", func := "cognate/cognatelaw21.CoreMore", spec := "coreMore", unfollowed := true, recurses := true, loops := true, apart := false, narrowed := true }
def CoreMoreUptoSaid : Prop := coreMoreUptoRow.holds Tryz.pinned (OpenSpec.upto coreMoreSpec)

/-- 'cognatelaw21.CorePut', WHERE WHAT IT READS IS OF BULK AT MOST 1048576: true; the input reads as it did. -/
def corePutUptoRow : OpenClaim := { program := "yteepjjgooplljaagreat", sum := "22dc62d46be1d4d0e991c4df161e2dff0a6bbdf715f69a67643f87d084337750", func := "cognate/cognatelaw21.CorePut", spec := "corePut", unfollowed := true, recurses := true, loops := true, apart := false, narrowed := true }
def CorePutUptoSaid : Prop := corePutUptoRow.holds Tryz.pinned (OpenSpec.upto corePutSpec)

end Rows
end Go.Proofs.YteepjjgooplljaaGreat
