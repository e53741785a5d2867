/- equality of structs of numbers; slices.Equal at atoms, functions, numbers, texts -/
import Derived.Test.YtadhakcmfkghbaaB29e
import Derived.Test.YtadhakcmfkghbaaB05s
import Derived.Test.YtadhakcmfkghbaaAY
import Derived.Laws.StructEq
namespace Go.Proofs.Ytadhakcmfkghbaa
open Go.RowKit
abbrev iv (x : Int) : Value := .int .i64 x
structure EqT (P : Program) (t : TypeId) (n : Nat) : Prop where
  eq : ∀ (a b : List Int) (w : World), a.length = n → b.length = n → (binOp .neq t (.agg (a.map iv).toArray) (.agg (b.map iv).toArray)).run P w = .ok (.bool (!(a == b))) w
  gd : P.eqGuardType P.depth t = false
theorem op_aneq {P : Program} {o : Oper} {al : Sl} {M : Mem} {K : AV → Mem → Prop} {x y : Operand} {t t' : TypeId} {n : Nat} {a b : List Int} (E : EqT P t n) (ho : o.op = .binOp .neq t x y t') (hx : al.ev x = some (.agg (a.map fun z => .val (iv z)))) (hy : al.ev y = some (.agg (b.map fun z => .val (iv z)))) (ha : a.length = n) (hb : b.length = n) (q : ∀ c : Bool, (c = true ↔ ¬ a = b) → K (.val (.bool c)) M) : OpT P o al M K :=
  OpT.plain fun n B F Mf ac w hi hs => by
    have h1 := hs.ev hx
    have h2 := hs.ev hy
    have key : ∀ (l : List Int) (v : Value), Rel F (.agg (l.map fun z => .val (iv z))) v → v = .agg (l.map iv).toArray := by
      intro l v h
      cases h with
      | agg h _ =>
        rw [show (l.map fun z => AV.val (iv z)) = (l.map iv).map AV.val from by simp] at h
        rw [rels_vals h]
    refine ⟨.bool (!(a == b)), _, ?_, q (!(a == b)) (by simp), .val _⟩
    simp [execOp, ho, key _ _ h1, key _ _ h2, run_eqGuard_agg w .neq t x y _ _ E.gd, E.eq a b w ha hb]
theorem eqT_ato : EqT Try.prog 41 2 := by
  refine ⟨fun a b w ha hb => ?_, by kernel_rfl⟩
  match a, b, ha, hb with
  | [a1, a2], [b1, b2], _, _ =>
    have hS : Try.prog.underlying 41 = some (.struct (Try.prog.fieldsOf 41)) := by kernel_rfl
    have hp : Try.prog.stoodInHeld 41 = false := by kernel_rfl
    have u3 := tu_3
    have u2 := tu_2
    have a3 := (tyAgg_none ta_3 w).1
    have e3 : ∀ a b, (Op.equalIn 9999 3 (.int .i64 a) (.int .i64 b)).run Try.prog w = .ok (a == b) w := fun a b => run_equalIn_int w 9998 3 .i64 .i64 a b u3
    have e2 : ∀ a b, (Op.equalIn 9999 2 (.int .i64 a) (.int .i64 b)).run Try.prog w = .ok (a == b) w := fun a b => run_equalIn_int w 9998 2 .i64 .i64 a b u2
    rw [run_neq_struct, show (10000 : Nat) = 9999 + 1 from rfl, run_equalIn_agg w 9999 _ _ _ hS hp]
    simp only [Program.fieldsOf, Try.underlying41]
    by_cases h1 : a1 = b1 <;> by_cases h2 : a2 = b2 <;> simp [Op.eqFields, part, a3, e3, e2, h1, h2]
theorem eqT_cf : EqT Try.prog 39 3 := by
  refine ⟨fun a b w ha hb => ?_, by kernel_rfl⟩
  match a, b, ha, hb with
  | [a1, a2, a3], [b1, b2, b3], _, _ =>
    have hS : Try.prog.underlying 39 = some (.struct (Try.prog.fieldsOf 39)) := by kernel_rfl
    have hp : Try.prog.stoodInHeld 39 = false := by kernel_rfl
    have u3 := tu_3
    have g3 := (tyAgg_none ta_3 w).1
    have e3 : ∀ a b, (Op.equalIn 9999 3 (.int .i64 a) (.int .i64 b)).run Try.prog w = .ok (a == b) w := fun a b => run_equalIn_int w 9998 3 .i64 .i64 a b u3
    rw [run_neq_struct, show (10000 : Nat) = 9999 + 1 from rfl, run_equalIn_agg w 9999 _ _ _ hS hp]
    simp only [Program.fieldsOf, Try.underlying39]
    by_cases h1 : a1 = b1 <;> by_cases h2 : a2 = b2 <;> by_cases h3 : a3 = b3 <;> simp [Op.eqFields, part, g3, e3, h1, h2, h3]
end Go.Proofs.Ytadhakcmfkghbaa
