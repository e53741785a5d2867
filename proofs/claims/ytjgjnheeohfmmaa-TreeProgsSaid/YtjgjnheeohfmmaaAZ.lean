/- Bools compared, as a case (as in AY). -/
import Derived.Test.YtjgjnheeohfmmaaAL11
namespace Go.Proofs.Ytjgjnheeohfmmaa
open Go.RowKit
section
variable {P : Program} {al : Sl} {M : Mem} {K : AV → Mem → Prop} {o : Oper}
theorem op_beqlc {x y : Operand} {t t' : TypeId} {a b : Bool} (ho : o.op = .binOp .eql t x y t') (ht : P.underlying t = some .bool) (hx : al.ev x = some (.val (.bool a))) (hy : al.ev y = some (.val (.bool b))) (q : ∀ c : Bool, (c = true ↔ a = b) → K (.val (.bool c)) M) : OpT P o al M K :=
  op_beql ho ht hx hy (q _ (by simp))
theorem op_bneqc {x y : Operand} {t t' : TypeId} {a b : Bool} (ho : o.op = .binOp .neq t x y t') (ht : P.underlying t = some .bool) (hx : al.ev x = some (.val (.bool a))) (hy : al.ev y = some (.val (.bool b))) (q : ∀ c : Bool, (c = true ↔ a ≠ b) → K (.val (.bool c)) M) : OpT P o al M K :=
  op_bneq ho ht hx hy (q _ (by simp))
end
end Go.Proofs.Ytjgjnheeohfmmaa
