/- The logic of trees, part 15: bits and shifts of numbers. -/
import Derived.Test.YtecpnlhjjmcllaaAL14
import Derived.Laws.Entries
namespace Go.Proofs.Ytecpnlhjjmcllaa
open Go.RowKit
section
variable {P : Program} {o : Oper} {al : Sl} {M : Mem} {K : AV → Mem → Prop}
/-- what a bit operation comes to -/
def bitsOf (op : BinOp) (k : IntKind) (a b : Int) : Int :=
  k.wrap (match op with
    | .and => (BitVec.ofInt k.bits a &&& BitVec.ofInt k.bits b).toNat
    | .or => (BitVec.ofInt k.bits a ||| BitVec.ofInt k.bits b).toNat
    | _ => (BitVec.ofInt k.bits a ^^^ BitVec.ofInt k.bits b).toNat : Nat)
theorem op_bits {x y : Operand} {t t' : TypeId} {k : IntKind} {a b r : Int} {op : BinOp} (hop : op = .and ∨ op = .or ∨ op = .xor) (ho : o.op = .binOp op t x y t') (hx : al.ev x = some (.val (.int k a))) (hy : al.ev y = some (.val (.int k b))) (hr : bitsOf op k a b = r) (q : K (.val (.int k r)) M) : OpT P o al M K :=
  OpT.plain fun n B F Mf ac w hi hs => by
    refine ⟨.int k r, _, ?_, q, .val _⟩
    subst hr
    rcases hop with rfl | rfl | rfl <;> simp [execOp, ho, ev_val hs hx, ev_val hs hy, eqGuard_int, binOp, Op.intBits, bitsOf]
theorem op_shr {x y : Operand} {t t' : TypeId} {k k' : IntKind} {a b r : Int} (ho : o.op = .binOp .shr t x y t') (hx : al.ev x = some (.val (.int k a))) (hy : al.ev y = some (.val (.int k' b))) (hb : 0 ≤ b) (hr : a / 2 ^ min b.toNat k.bits = r) (q : K (.val (.int k r)) M) : OpT P o al M K :=
  OpT.plain fun n B F Mf ac w hi hs => by
    refine ⟨.int k r, _, ?_, q, .val _⟩
    subst hr
    have e : a.fdiv (2 ^ min b.toNat k.bits) = a / 2 ^ min b.toNat k.bits := Int.fdiv_eq_ediv_of_nonneg _ (Int.le_of_lt (Int.pow_pos (by decide)))
    have hb' : ¬ b < 0 := by omega
    simp [execOp, ho, ev_val hs hx, ev_val hs hy, eqGuard_int, binOp, Op.shift, hb', e]
theorem op_shl {x y : Operand} {t t' : TypeId} {k k' : IntKind} {a b r : Int} (ho : o.op = .binOp .shl t x y t') (hx : al.ev x = some (.val (.int k a))) (hy : al.ev y = some (.val (.int k' b))) (hb : 0 ≤ b) (hr : k.wrap (a * 2 ^ min b.toNat k.bits) = r) (q : K (.val (.int k r)) M) : OpT P o al M K :=
  OpT.plain fun n B F Mf ac w hi hs => by
    refine ⟨.int k r, _, ?_, q, .val _⟩
    subst hr
    have hb' : ¬ b < 0 := by omega
    simp [execOp, ho, ev_val hs hx, ev_val hs hy, eqGuard_int, binOp, Op.shift, hb']
end
end Go.Proofs.Ytecpnlhjjmcllaa
