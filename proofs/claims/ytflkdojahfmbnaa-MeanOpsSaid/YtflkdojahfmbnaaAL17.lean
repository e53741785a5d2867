/- The logic of trees, part 17: calls that take pieces of the memory along, by their places. -/
import Derived.Test.YtflkdojahfmbnaaAL16
namespace Go.Proofs.Ytflkdojahfmbnaa
open Go.RowKit
/-- pieces by their places, each among those that are left -/
def pick : List Nat → Mem → Option (Mem × Mem)
  | [], M => some ([], M)
  | i :: is, M => match M[i]? with
    | none => none
    | some r => match pick is (M.eraseIdx i) with
      | none => none
      | some p => some (r :: p.1, p.2)
theorem pick_perm : ∀ {is : List Nat} {M M1 M2 : Mem}, pick is M = some (M1, M2) → M.Perm (M1 ++ M2)
  | [], M, M1, M2, h => by simp [pick] at h; obtain ⟨rfl, rfl⟩ := h; exact .refl _
  | i :: is, M, M1, M2, h => by
    rw [pick] at h
    split at h
    · cases h
    · rename_i r hr
      split at h
      · cases h
      · rename_i p hp
        simp only [Option.some.injEq, Prod.mk.injEq] at h
        obtain ⟨rfl, rfl⟩ := h
        exact (perm_at hr).trans ((pick_perm (M1 := p.1) (M2 := p.2) (by rw [hp])).cons _)
/-- a call that answers one tree, and leaves its memory as it was -/
abbrev KCall (P : Program) (f : FuncId) (vs : List AV) (M : Mem) (r : AV) : Prop := ACall P f vs M (fun v M' => v = r ∧ M' = M)
abbrev KBCall (P : Program) (f : FuncId) (vs : List AV) (M : Mem) (p : Prop) : Prop := ACall P f vs M (fun v M' => (∃ c : Bool, (c = true ↔ p) ∧ v = .val (.bool c)) ∧ M' = M)
section
variable {P : Program} {al : Sl} {M : Mem} {K : AV → Mem → Prop} {o : Oper}
theorem op_callat {f : FuncId} {xs : List Operand} {ts : Array TypeId} {vs vs' : List AV} (is : List Nat) {M1 M2 : Mem} {R : AV → Mem → Prop} (ho : o.op = .call { callee := .value (.func f), args := xs.toArray, argTypes := ts }) (hx : xs.mapM al.ev = some vs) (hp : pick is M = some (M1, M2)) (hc : ACall P f vs' M1 R) (hl : Les vs vs') (q : ∀ v M', R v M' → K v (M' ++ M2)) : OpT P o al M K :=
  op_callg ho hx hc hl (pick_perm hp) q
theorem op_callvat {x : Operand} {f : FuncId} {fs cs : List AV} {xs : List Operand} {ts : Array TypeId} {vs vs' : List AV} (is : List Nat) {M1 M2 : Mem} {R : AV → Mem → Prop} (ho : o.op = .call { callee := .value x, args := xs.toArray, argTypes := ts }) (hf : al.ev x = some (.clo (.func f) fs cs)) (hx : xs.mapM al.ev = some vs) (hp : pick is M = some (M1, M2)) (hc : ACall P f vs' M1 R) (hl : Les (fs ++ vs ++ cs) vs') (q : ∀ v M', R v M' → K v (M' ++ M2)) : OpT P o al M K :=
  op_callvg ho hf hx hc hl (pick_perm hp) q
theorem OpT.kept {M' : Mem} (hp : M.Perm M') (h : OpT P o al M (fun v M2 => K v M ∧ M2 = M')) : OpT P o al M K := by
  intro n B F Mf a w hi hs ro
  refine Oper.wpIn_mono ?_ (h n B F Mf a w hi hs ro)
  rintro a' w' ⟨u, v, M2, F', h1, ⟨h2, rfl⟩, h3, h4, h5, h6⟩
  exact ⟨u, v, M, F', h1, h2, h3, h4, h5.perm (hp.symm.append_right Mf), h6⟩
/-- a call that leaves the memory as it was -/
theorem op_callk {f : FuncId} {xs : List Operand} {ts : Array TypeId} {vs vs' : List AV} (is : List Nat) {M1 M2 : Mem} {r : AV} (ho : o.op = .call { callee := .value (.func f), args := xs.toArray, argTypes := ts }) (hx : xs.mapM al.ev = some vs) (hp : pick is M = some (M1, M2)) (hc : KCall P f vs' M1 r) (hl : Les vs vs') (q : K r M) : OpT P o al M K :=
  OpT.kept (pick_perm hp) (op_callat is ho hx hp hc hl (by rintro v M' ⟨rfl, rfl⟩; exact ⟨q, rfl⟩))
theorem op_callkb {f : FuncId} {xs : List Operand} {ts : Array TypeId} {vs vs' : List AV} (is : List Nat) {M1 M2 : Mem} {p : Prop} (ho : o.op = .call { callee := .value (.func f), args := xs.toArray, argTypes := ts }) (hx : xs.mapM al.ev = some vs) (hp : pick is M = some (M1, M2)) (hc : KBCall P f vs' M1 p) (hl : Les vs vs') (q : ∀ c : Bool, (c = true ↔ p) → K (.val (.bool c)) M) : OpT P o al M K :=
  OpT.kept (pick_perm hp) (op_callat is ho hx hp hc hl (by rintro v M' ⟨⟨c, hz, rfl⟩, rfl⟩; exact ⟨q c hz, rfl⟩))
/-- a call that leaves the memory as it was, and answers some value of which something is known -/
theorem op_callkr {f : FuncId} {xs : List Operand} {ts : Array TypeId} {vs vs' : List AV} (is : List Nat) {M1 M2 : Mem} {R : AV → Prop} (ho : o.op = .call { callee := .value (.func f), args := xs.toArray, argTypes := ts }) (hx : xs.mapM al.ev = some vs) (hp : pick is M = some (M1, M2)) (hc : ACall P f vs' M1 (fun v M' => R v ∧ M' = M1)) (hl : Les vs vs') (q : ∀ v, R v → K v M) : OpT P o al M K :=
  OpT.kept (pick_perm hp) (op_callat is ho hx hp hc hl (by rintro v M' ⟨h, rfl⟩; exact ⟨q v h, rfl⟩))
theorem Le.sle {a : Addr} {n n' c c' : Nat} (h : n = n') (k : c = c') : Le (.val (.slice (some a) n c)) (.val (.slice (some a) n' c')) := by rw [h, k]; exact Le.refl _
theorem MLe.pre : ∀ M M2 : Mem, MLe (M ++ M2) M
  | [], _ => MLe.none _
  | r :: M, M2 => .cons r (MLe.pre M M2)
theorem MLe.of_eq {M M' : Mem} (h : M = M') : MLe M M' := by rw [h]; exact MLe.refl _
theorem out_tttt {fn : Func} {R : AV → Mem → Prop} {M' : Mem} {t1 t2 t3 t4 : Nat} {v1 v2 v3 v4 v' : AV} (hr : fn.results = #[.tmp t1, .tmp t2, .tmp t3, .tmp t4]) (h1 : al.lookup t1 = some v1) (h2 : al.lookup t2 = some v2) (h3 : al.lookup t3 = some v3) (h4 : al.lookup t4 = some v4) (hl : Le (.tup [v1, v2, v3, v4]) v') (hm : MLe M M') (h : R v' M') : Out P fn R .ret al M :=
  ⟨[v1, v2, v3, v4], v', M', by rw [hr]; exact .cons h1 (.cons h2 (.cons h3 (.cons h4 .nil))), hl, hm, h⟩
/-- a pointer that isn't nil, held against nil -/
theorem eqGuard_p {op : BinOp} {t : TypeId} {x y : Operand} {a : Option Addr} {w : World} : (eqGuard op t x y (.pointer a) (.pointer none)).run P w = .ok () w := by
  unfold eqGuard; split <;> simp
theorem equal_p {t e : TypeId} (ht : P.underlying t = some (.pointer e)) (a : Addr) (w : World) : (Op.equal t (.pointer (some a)) (.pointer none)).run P w = .ok false w := by
  unfold Op.equal
  have : Op.maxDepth = 9999 + 1 := rfl
  rw [this, Op.equalIn]
  simp only [Sem.run_bind, underlying, run_program, Result.andThen_ok, ht, Sem.run_pure]
inductive IsPtr : AV → Prop
  | m (b off : Nat) : IsPtr (.ptr b off)
  | c (cs : List AV) : IsPtr (.cptr cs)
theorem IsPtr.rel {v : AV} (h : IsPtr v) {F : EH} {u : Value} (hr : Rel F v u) : ∃ a, u = .pointer (some a) := by
  cases h <;> cases hr <;> exact ⟨_, rfl⟩
theorem op_pneq {x : Operand} {t t' e : TypeId} {v : AV} (ho : o.op = .binOp .neq t x (.const (.pointer none)) t') (ht : P.underlying t = some (.pointer e)) (hx : al.ev x = some v) (hv : IsPtr v) (q : K (.val (.bool true)) M) : OpT P o al M K :=
  OpT.plain fun n B F Mf ac w hi hs => by
    obtain ⟨a, he⟩ := hv.rel (hs.ev hx)
    refine ⟨.bool true, _, ?_, q, .val _⟩
    have hc : ac.eval (.const (.pointer none)) = .pointer none := rfl
    unfold execOp
    simp only [ho, he, hc, Sem.run_bind, eqGuard_p, Result.andThen_ok, binOp, equal_p ht, Sem.run_pure, Bool.not_false]
theorem op_peql {x : Operand} {t t' e : TypeId} {v : AV} (ho : o.op = .binOp .eql t x (.const (.pointer none)) t') (ht : P.underlying t = some (.pointer e)) (hx : al.ev x = some v) (hv : IsPtr v) (q : K (.val (.bool false)) M) : OpT P o al M K :=
  OpT.plain fun n B F Mf ac w hi hs => by
    obtain ⟨a, he⟩ := hv.rel (hs.ev hx)
    refine ⟨.bool false, _, ?_, q, .val _⟩
    have hc : ac.eval (.const (.pointer none)) = .pointer none := rfl
    unfold execOp
    simp only [ho, he, hc, Sem.run_bind, eqGuard_p, Result.andThen_ok, binOp, equal_p ht, Sem.run_pure]
theorem op_pneqc {x : Operand} {t t' e : TypeId} {v : AV} (ho : o.op = .binOp .neq t x (.const (.pointer none)) t') (ht : P.underlying t = some (.pointer e)) (hx : al.ev x = some v) (hv : IsPtr v) (q : ∀ c : Bool, (c = true ↔ True) → K (.val (.bool c)) M) : OpT P o al M K :=
  op_pneq ho ht hx hv (q true (by simp))
end
end Go.Proofs.Ytflkdojahfmbnaa
