/- The frame of a row's second form ('..UptoSaid'). -/
import Derived.Test.YtjgjnheeohfmmaaRows
import Derived.Test.YtjgjnheeohfmmaaAO2
import Derived.Test.YtjgjnheeohfmmaaL00
import Derived.JoinedCond
import Derived.Deep.CondSized
namespace Go.Proofs.Ytjgjnheeohfmmaa
open Go.RowKit
theorem upto_witness {H : Type} {enc : TypeId × Value → H} {C : Checked} {os : Os} {f : FuncId} {fn : Func} {s : OpenSpec} {k : (H : Type) → List (DataW H) → Bool} (hk : s.cond = some k) {conds : List PathCond} {apart : Bool} (modest : Bool) (i : Input) (fuel : Nat)
    (hv : (World.plainHolding C.prog os i).variablesB C.prog = true)
    (hr : ((World.plainHolding C.prog os i).heap.toList.drop C.prog.globals.size).take ((begin C.prog (fun _ _ => 0) default).world.heap.size - C.prog.globals.size) =
      (begin C.prog (fun _ _ => 0) default).world.heap.toList.drop C.prog.globals.size)
    (hok : Input.okWideB C.prog (World.plainHolding C.prog os i) f ⟨#[], i.args, []⟩ = true)
    (hx : (match DataW.whole enc C.prog (World.plainHolding C.prog os i).memory fn.params.toList s.vars apart i.args.toList fuel with | some x => conds.all (PathCond.test C.prog ⟨fn.params.toList, x.1, s.bare.plain.varTypes C.prog, x.2.1⟩) && k H (x.1 ++ x.2.1) | none => false) = true)
    (hsz : s.bare.sizedB enc C.prog fn apart (World.plainHolding C.prog os i).memory i.args fuel = true) :
    ∃ (w : World) (tape : Tape) (i : Input), w.os = os ∧ (w.forCall tape i).Shaped C.prog ∧ i.vars = [] ∧ Input.okWide C.prog (w.forCall tape i) .any w.heap.size f i ∧
      s.pre6 enc C.prog fn conds apart (w.forCall tape i).memory i.args ∧ ({ modest := modest } : Assume).holds C.prog (lone (Frame.enter C.prog f i.args .normal) [] (w.forCall tape i)) := by
  cases e : DataW.whole enc C.prog (World.plainHolding C.prog os i).memory fn.params.toList s.vars apart i.args.toList fuel with
  | none => rw [e] at hx; cases hx
  | some x =>
    rw [e] at hx
    simp only [Bool.and_eq_true] at hx
    exact OpenSpec.witness hk modest i fuel hv hr hok e hx.1 hx.2 hsz
theorem uptoBulk_at {H : Type} : ∀ {ds : List (DataW H)} {j : Nat} {d : DataW H}, ds[j]? = some d → uptoBulk d ≤ uptoBulkAll ds
  | [], _, _, h => by simp at h
  | x :: ds, 0, d, h => by simp at h; subst h; simp only [uptoBulk, uptoBulkAll, Rows.uptoBulkAll]; omega
  | x :: ds, j + 1, d, h => by
    have := uptoBulk_at (ds := ds) (j := j) (by simpa using h)
    simp only [uptoBulk, uptoBulkAll, Rows.uptoBulkAll] at *; omega
theorem upto_le {H : Type} {ds : List (DataW H)} {j : Nat} {d : DataW H} (hk : Rows.uptoSmall H ds = true) (h : ds[j]? = some d) : uptoBulk d ≤ 1048576 := by
  have h1 := uptoBulk_at h
  have h2 : uptoBulkAll ds ≤ 1048576 := of_decide_eq_true hk
  omega
end Go.Proofs.Ytjgjnheeohfmmaa
