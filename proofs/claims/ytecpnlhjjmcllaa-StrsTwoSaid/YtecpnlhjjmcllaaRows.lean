/-
  No cell of these rows narrows 'for every input' (looked for: loops, veiled, ifaces, maps, wideKeys, modest, calm, conditions, laid).
  DERIVED. THE GIVEN ROWS OF THIS SEAT. 7 by the template 'for every input the law returns true; each argument reads behind the call as it read before'; 0 by the template 'total and deterministic' (their statements: YtecpnlhjjmcllaaTotals.lean).
  GIVEN WITH THE SEED: the statements are not yours to turn. If you find one false, say at which input.
  Laid BY PROGRAM, IN A SANDBOX (cutbox-rows.mjs): the forced cells as the released guide's own fill.sh prints them over the translation f63eac18303a607e… (all of the seat's roots in one cut). By AI agents, Wed Nov 11 2026. No macro, syntax, notation, axiom, sorry.
-/
import Derived.Test.YtecpnlhjjmcllaaChecked
import GoSem.Claim
import GoSem.ClaimJoined
import GoSem.ClaimMapViews
import Derived.JoinedTies
import Derived.KernelRfl
namespace Go.Proofs.Ytecpnlhjjmcllaa
/- THE CELL 'sum', in the pinned program and in every row, IS THE sha256 OF THE DUMP (.gsa) THAT YtecpnlhjjmcllaaProg.lean LOADS. Nothing in Lean hashes anything: it is a label: what it is worth is what the hold of that sum in a sandbox is worth. -/
noncomputable def Try.pinned : Pinned := { name := "ytecpnlhjjmcllaa", sum := "f63eac18303a607e59e971f9e2e8bc6bb96b2fcdd7869475f057f25167a89abb", checked := Try.checked }
namespace Rows
def none {H : Type} : Left H := { results := [], args := [] }

/-- 'cognatelaw31.HeapPlays': WHATEVER THE INPUT: true; the input reads as it did. -/
def heapPlaysSpec : ChangeSpec := { name := "heapPlays", fn := fun _ => fun
  | [d1, d2] => { results := [.lit (.bool true)], args := [d1, d2] }
  | _ => none }
def heapPlaysRow : OpenClaim := { program := "ytecpnlhjjmcllaa", sum := "f63eac18303a607e59e971f9e2e8bc6bb96b2fcdd7869475f057f25167a89abb", func := "cognate/cognatelaw31.HeapPlays", spec := "heapPlays", unfollowed := true, recurses := true, apart := false }
def HeapPlaysSaid : Prop := heapPlaysRow.holds Try.pinned (OpenSpec.ofChange heapPlaysSpec)

/-- ITS FALSE NEIGHBOUR: 'it returns false'. Refute it at one input. -/
def heapPlaysWrong : ChangeSpec := { name := "heapPlays", fn := fun _ => fun
  | [d1, d2] => { results := [.lit (.bool false)], args := [d1, d2] }
  | _ => none }
def HeapPlaysWrongFalsely : Prop := heapPlaysRow.holds Try.pinned (OpenSpec.ofChange heapPlaysWrong)

/-- 'cognatelaw31.HeapKeeps': WHATEVER THE INPUT: true; the input reads as it did. -/
def heapKeepsSpec : ChangeSpec := { name := "heapKeeps", fn := fun _ => fun
  | [d1, d2, d3] => { results := [.lit (.bool true)], args := [d1, d2, d3] }
  | _ => none }
def heapKeepsRow : OpenClaim := { program := "ytecpnlhjjmcllaa", sum := "f63eac18303a607e59e971f9e2e8bc6bb96b2fcdd7869475f057f25167a89abb", func := "cognate/cognatelaw31.HeapKeeps", spec := "heapKeeps", unfollowed := true, recurses := true, apart := false }
def HeapKeepsSaid : Prop := heapKeepsRow.holds Try.pinned (OpenSpec.ofChange heapKeepsSpec)

/-- ITS FALSE NEIGHBOUR: 'it returns false'. Refute it at one input. -/
def heapKeepsWrong : ChangeSpec := { name := "heapKeeps", fn := fun _ => fun
  | [d1, d2, d3] => { results := [.lit (.bool false)], args := [d1, d2, d3] }
  | _ => none }
def HeapKeepsWrongFalsely : Prop := heapKeepsRow.holds Try.pinned (OpenSpec.ofChange heapKeepsWrong)

/-- 'cognatelaw31.HeapNone': WHATEVER THE INPUT: true; the input reads as it did. -/
def heapNoneSpec : ChangeSpec := { name := "heapNone", fn := fun _ => fun
  | [d1, d2, d3] => { results := [.lit (.bool true)], args := [d1, d2, d3] }
  | _ => none }
def heapNoneRow : OpenClaim := { program := "ytecpnlhjjmcllaa", sum := "f63eac18303a607e59e971f9e2e8bc6bb96b2fcdd7869475f057f25167a89abb", func := "cognate/cognatelaw31.HeapNone", spec := "heapNone", unfollowed := true, recurses := true, apart := false }
def HeapNoneSaid : Prop := heapNoneRow.holds Try.pinned (OpenSpec.ofChange heapNoneSpec)

/-- ITS FALSE NEIGHBOUR: 'it returns false'. Refute it at one input. -/
def heapNoneWrong : ChangeSpec := { name := "heapNone", fn := fun _ => fun
  | [d1, d2, d3] => { results := [.lit (.bool false)], args := [d1, d2, d3] }
  | _ => none }
def HeapNoneWrongFalsely : Prop := heapNoneRow.holds Try.pinned (OpenSpec.ofChange heapNoneWrong)

/-- 'cognatelaw32.StrsLie': WHATEVER THE INPUT: true; the input reads as it did. -/
def strsLieSpec : ChangeSpec := { name := "strsLie", fn := fun _ => fun
  | [d1, d2, d3] => { results := [.lit (.bool true)], args := [d1, d2, d3] }
  | _ => none }
def strsLieRow : OpenClaim := { program := "ytecpnlhjjmcllaa", sum := "f63eac18303a607e59e971f9e2e8bc6bb96b2fcdd7869475f057f25167a89abb", func := "cognate/cognatelaw32.StrsLie", spec := "strsLie", apart := false }
def StrsLieSaid : Prop := strsLieRow.holds Try.pinned (OpenSpec.ofChange strsLieSpec)

/-- ITS FALSE NEIGHBOUR: 'it returns false'. Refute it at one input. -/
def strsLieWrong : ChangeSpec := { name := "strsLie", fn := fun _ => fun
  | [d1, d2, d3] => { results := [.lit (.bool false)], args := [d1, d2, d3] }
  | _ => none }
def StrsLieWrongFalsely : Prop := strsLieRow.holds Try.pinned (OpenSpec.ofChange strsLieWrong)

/-- 'cognatelaw32.StrsTwo': WHATEVER THE INPUT: true; the input reads as it did. -/
def strsTwoSpec : ChangeSpec := { name := "strsTwo", fn := fun _ => fun
  | [d1, d2, d3] => { results := [.lit (.bool true)], args := [d1, d2, d3] }
  | _ => none }
def strsTwoRow : OpenClaim := { program := "ytecpnlhjjmcllaa", sum := "f63eac18303a607e59e971f9e2e8bc6bb96b2fcdd7869475f057f25167a89abb", func := "cognate/cognatelaw32.StrsTwo", spec := "strsTwo", inPlace := ["internal/bytealg.abigen_runtime_cmpstring"], apart := false }
def StrsTwoSaid : Prop := strsTwoRow.holds Try.pinned (OpenSpec.ofChange strsTwoSpec)

/-- ITS FALSE NEIGHBOUR: 'it returns false'. Refute it at one input. -/
def strsTwoWrong : ChangeSpec := { name := "strsTwo", fn := fun _ => fun
  | [d1, d2, d3] => { results := [.lit (.bool false)], args := [d1, d2, d3] }
  | _ => none }
def StrsTwoWrongFalsely : Prop := strsTwoRow.holds Try.pinned (OpenSpec.ofChange strsTwoWrong)

/-- 'cognatelaw32.StrsChain': WHATEVER THE INPUT: true; the input reads as it did. -/
def strsChainSpec : ChangeSpec := { name := "strsChain", fn := fun _ => fun
  | [d1, d2, d3] => { results := [.lit (.bool true)], args := [d1, d2, d3] }
  | _ => none }
def strsChainRow : OpenClaim := { program := "ytecpnlhjjmcllaa", sum := "f63eac18303a607e59e971f9e2e8bc6bb96b2fcdd7869475f057f25167a89abb", func := "cognate/cognatelaw32.StrsChain", spec := "strsChain", inPlace := ["internal/bytealg.abigen_runtime_cmpstring"], apart := false }
def StrsChainSaid : Prop := strsChainRow.holds Try.pinned (OpenSpec.ofChange strsChainSpec)

/-- ITS FALSE NEIGHBOUR: 'it returns false'. Refute it at one input. -/
def strsChainWrong : ChangeSpec := { name := "strsChain", fn := fun _ => fun
  | [d1, d2, d3] => { results := [.lit (.bool false)], args := [d1, d2, d3] }
  | _ => none }
def StrsChainWrongFalsely : Prop := strsChainRow.holds Try.pinned (OpenSpec.ofChange strsChainWrong)

/-- 'cognatelaw32.StrsKeep': WHATEVER THE INPUT: true; the input reads as it did. -/
def strsKeepSpec : ChangeSpec := { name := "strsKeep", fn := fun _ => fun
  | [d] => { results := [.lit (.bool true)], args := [d] }
  | _ => none }
def strsKeepRow : OpenClaim := { program := "ytecpnlhjjmcllaa", sum := "f63eac18303a607e59e971f9e2e8bc6bb96b2fcdd7869475f057f25167a89abb", func := "cognate/cognatelaw32.StrsKeep", spec := "strsKeep", inPlace := ["internal/bytealg.abigen_runtime_cmpstring"], unfollowed := true, recurses := true, apart := false }
def StrsKeepSaid : Prop := strsKeepRow.holds Try.pinned (OpenSpec.ofChange strsKeepSpec)

/-- ITS FALSE NEIGHBOUR: 'it returns false'. Refute it at one input. -/
def strsKeepWrong : ChangeSpec := { name := "strsKeep", fn := fun _ => fun
  | [d] => { results := [.lit (.bool false)], args := [d] }
  | _ => none }
def StrsKeepWrongFalsely : Prop := strsKeepRow.holds Try.pinned (OpenSpec.ofChange strsKeepWrong)

/- THE SECOND FORM. 'bulk': how many values and letters a reading holds, each counted each time it is reached (what is shared counts as often as it is met; a slice's spare places count too). A statement '..UptoSaid' is the law's where the arguments, and the package variables that the reading takes, are together of bulk at most 1048576: NARROWER than '..Said'. Prove '..Said' where nothing that the law and all that it calls make is longer than what came in: it says more and counts as full. Else prove '..UptoSaid'. A law counts once. -/
mutual
def uptoBulk {H : Type} : DataW H → Nat
  | .lit (.string bytes) => bytes.length + 1
  | .lit _ => 1
  | .nil => 1
  | .ptr d => uptoBulk d + 1
  | .slice elems spare => uptoBulkAll elems + uptoBulkAll spare + 1
  | .agg parts => uptoBulkAll parts + 1
  | .iface _ d => uptoBulk d + 1
  | .map entries => uptoBulkEntries entries + 1
  | .held _ => 1
def uptoBulkAll {H : Type} : List (DataW H) → Nat
  | [] => 0
  | d :: r => uptoBulk d + uptoBulkAll r
def uptoBulkEntries {H : Type} : List (Lit × DataW H) → Nat
  | [] => 0
  | x :: r => uptoBulkEntry x + uptoBulkEntries r
def uptoBulkEntry {H : Type} : Lit × DataW H → Nat
  | (.string bytes, d) => bytes.length + uptoBulk d + 1
  | (_, d) => uptoBulk d + 1
 end
def uptoSmall : (H : Type) → List (DataW H) → Bool := fun _ ds => decide (uptoBulkAll ds ≤ 1048576)
def OpenSpec.upto (s : _root_.Go.ChangeSpec) : _root_.Go.OpenSpec := { _root_.Go.OpenSpec.ofChange s with cond := some uptoSmall }

/-- 'cognatelaw31.HeapPlays', WHERE WHAT IT READS IS OF BULK AT MOST 1048576: true; the input reads as it did. -/
def heapPlaysUptoRow : OpenClaim := { program := "ytecpnlhjjmcllaa", sum := "f63eac18303a607e59e971f9e2e8bc6bb96b2fcdd7869475f057f25167a89abb", func := "cognate/cognatelaw31.HeapPlays", spec := "heapPlays", unfollowed := true, recurses := true, apart := false, narrowed := true }
def HeapPlaysUptoSaid : Prop := heapPlaysUptoRow.holds Try.pinned (OpenSpec.upto heapPlaysSpec)

/-- 'cognatelaw31.HeapKeeps', WHERE WHAT IT READS IS OF BULK AT MOST 1048576: true; the input reads as it did. -/
def heapKeepsUptoRow : OpenClaim := { program := "ytecpnlhjjmcllaa", sum := "f63eac18303a607e59e971f9e2e8bc6bb96b2fcdd7869475f057f25167a89abb", func := "cognate/cognatelaw31.HeapKeeps", spec := "heapKeeps", unfollowed := true, recurses := true, apart := false, narrowed := true }
def HeapKeepsUptoSaid : Prop := heapKeepsUptoRow.holds Try.pinned (OpenSpec.upto heapKeepsSpec)

/-- 'cognatelaw31.HeapNone', WHERE WHAT IT READS IS OF BULK AT MOST 1048576: true; the input reads as it did. -/
def heapNoneUptoRow : OpenClaim := { program := "ytecpnlhjjmcllaa", sum := "f63eac18303a607e59e971f9e2e8bc6bb96b2fcdd7869475f057f25167a89abb", func := "cognate/cognatelaw31.HeapNone", spec := "heapNone", unfollowed := true, recurses := true, apart := false, narrowed := true }
def HeapNoneUptoSaid : Prop := heapNoneUptoRow.holds Try.pinned (OpenSpec.upto heapNoneSpec)

/-- 'cognatelaw32.StrsLie', WHERE WHAT IT READS IS OF BULK AT MOST 1048576: true; the input reads as it did. -/
def strsLieUptoRow : OpenClaim := { program := "ytecpnlhjjmcllaa", sum := "f63eac18303a607e59e971f9e2e8bc6bb96b2fcdd7869475f057f25167a89abb", func := "cognate/cognatelaw32.StrsLie", spec := "strsLie", apart := false, narrowed := true }
def StrsLieUptoSaid : Prop := strsLieUptoRow.holds Try.pinned (OpenSpec.upto strsLieSpec)

/-- 'cognatelaw32.StrsTwo', WHERE WHAT IT READS IS OF BULK AT MOST 1048576: true; the input reads as it did. -/
def strsTwoUptoRow : OpenClaim := { program := "ytecpnlhjjmcllaa", sum := "f63eac18303a607e59e971f9e2e8bc6bb96b2fcdd7869475f057f25167a89abb", func := "cognate/cognatelaw32.StrsTwo", spec := "strsTwo", inPlace := ["internal/bytealg.abigen_runtime_cmpstring"], apart := false, narrowed := true }
def StrsTwoUptoSaid : Prop := strsTwoUptoRow.holds Try.pinned (OpenSpec.upto strsTwoSpec)

/-- 'cognatelaw32.StrsChain', WHERE WHAT IT READS IS OF BULK AT MOST 1048576: true; the input reads as it did. -/
def strsChainUptoRow : OpenClaim := { program := "ytecpnlhjjmcllaa", sum := "f63eac18303a607e59e971f9e2e8bc6bb96b2fcdd7869475f057f25167a89abb", func := "cognate/cognatelaw32.StrsChain", spec := "strsChain", inPlace := ["internal/bytealg.abigen_runtime_cmpstring"], apart := false, narrowed := true }
def StrsChainUptoSaid : Prop := strsChainUptoRow.holds Try.pinned (OpenSpec.upto strsChainSpec)

/-- 'cognatelaw32.StrsKeep', WHERE WHAT IT READS IS OF BULK AT MOST 1048576: true; the input reads as it did. -/
def strsKeepUptoRow : OpenClaim := { program := "ytecpnlhjjmcllaa", sum := "f63eac18303a607e59e971f9e2e8bc6bb96b2fcdd7869475f057f25167a89abb", func := "cognate/cognatelaw32.StrsKeep", spec := "strsKeep", inPlace := ["internal/bytealg.abigen_runtime_cmpstring"], unfollowed := true, recurses := true, apart := false, narrowed := true }
def StrsKeepUptoSaid : Prop := strsKeepUptoRow.holds Try.pinned (OpenSpec.upto strsKeepSpec)

end Rows
end Go.Proofs.Ytecpnlhjjmcllaa
