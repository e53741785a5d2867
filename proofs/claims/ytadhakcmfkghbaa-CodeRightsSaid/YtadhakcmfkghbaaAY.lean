/- Bytes as a text. -/
import Derived.Test.YtadhakcmfkghbaaAX
import Derived.Laws.BytesArg
namespace Go.Proofs.Ytadhakcmfkghbaa
open Go.RowKit
section
variable {P : Program} {n : Nat} {al : Sl} {M : Mem} {o : Oper} {K : AV → Mem → Prop}
def bts (xs : List Int) : List (List AV) := xs.map fun b => [.val (.int .u8 b)]
theorem rels_vals {F : EH} : ∀ {vs us : List Value}, Rels F (vs.map AV.val) us → us = vs
  | [], us, h => by cases h; rfl
  | v :: vs, us, h => by
    cases h with
    | cons h hs => cases h; rw [rels_vals hs]
theorem op_beqlc {x y : Operand} {t t' : TypeId} {a b : Bool} (ho : o.op = .binOp .eql t x y t') (ht : P.underlying t = some .bool) (hx : al.ev x = some (.val (.bool a))) (hy : al.ev y = some (.val (.bool b))) (q : ∀ c : Bool, (c = true ↔ a = b) → K (.val (.bool c)) M) : OpT P o al M K :=
  op_beql ho ht hx hy (q _ (by simp))
end
end Go.Proofs.Ytadhakcmfkghbaa
