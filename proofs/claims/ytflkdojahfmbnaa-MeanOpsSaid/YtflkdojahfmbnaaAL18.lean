/- The logic of trees, part 18: calls of what Go gives without a body; texts, greater. -/
import Derived.Test.YtflkdojahfmbnaaAL17
import Derived.Lib.Bytealg
import Derived.Laws.BytesArg
import Derived.Test.YtflkdojahfmbnaaAY
namespace Go.Proofs.Ytflkdojahfmbnaa
open Go.RowKit
section
variable {P : Program} {al : Sl} {M : Mem} {K : AV → Mem → Prop} {o : Oper}
theorem ev_vals {n : Nat} {F : EH} {a : Act} (hs : Slots n F al a.tmps) : ∀ {xs : List Operand} {vs : List Value}, xs.mapM al.ev = some (vs.map AV.val) → xs.map a.eval = vs
  | [], vs, h => by
    cases vs with
    | nil => rfl
    | cons v vs => simp at h
  | x :: xs, vs, h => by
    simp only [List.mapM_cons, Option.bind_eq_bind, Option.bind_eq_some_iff, Option.pure_def, Option.some.injEq] at h
    obtain ⟨v, h1, ws, h2, h3⟩ := h
    cases vs with
    | nil => cases h3
    | cons u us =>
      simp only [List.map_cons, List.cons.injEq] at h3
      obtain ⟨rfl, rfl⟩ := h3
      rw [List.map_cons, ev_val hs h1, ev_vals hs h2]
theorem op_callx {f : FuncId} {fn : Func} {e : Array Value → Sem Value} {xs : List Operand} {ts : Array TypeId} {vs : List Value} {r : Value} (hf : P.funcs[f]? = some fn) (hname : (fn.name == "runtime.NumGoroutine") = false) (hb : fn.body.isNone = true) (hn : Extern.findNext fn = none) (he : Extern.find fn = some e)
    (ho : o.op = .call { callee := .value (.func f), args := xs.toArray, argTypes := ts }) (hx : xs.mapM al.ev = some (vs.map AV.val)) (hr : ∀ w, (e vs.toArray).run P w = .ok r w) (q : K (.val r) M) : OpT P o al M K :=
  OpT.plain fun n B F Mf a w hi hs => by
    refine ⟨r, .val r, ?_, q, .val _⟩
    have h := ev_vals hs hx
    have h2 : (callFunc f vs.toArray).run P w = .ok (.value r) w := by
      have h0 : (Sem.run P (e vs.toArray) w) = .ok r w := hr w
      unfold callFunc
      simp only [Sem.run_bind, run_program, Result.andThen_ok, hf, hname, hb, Bool.false_eq_true, if_false, if_true, hn, he]
      simp [h0]
    simp only [execOp, ho, resolve, Act.eval, Deferred.ofValue, Sem.run_bind, Sem.run_pure, Result.andThen_ok, invoke, List.map_toArray, List.append_toArray, List.nil_append, List.append_nil]
    have h' : xs.map (fun x => a.eval x) = vs := h
    rw [show (List.map a.eval xs) = vs from h]
    exact h2
theorem op_bytestr0 {x : Operand} {t t' e : TypeId} {v : AV} (ho : o.op = .convert t t' x) (ht : P.underlying t = some (.slice e)) (he : P.underlying e = some (.int .u8)) (ht' : P.underlying t' = some .string) (hx : al.ev x = some v) (hv : IsSeq v 1 []) (q : K (.val (.string ⟨#[]⟩)) M) : OpT P o al M K :=
  OpT.plain fun n B F Mf ac w hi hs => by
    have h := hv.rel (hs.ev hx)
    generalize hu : ac.eval x = u at h
    have key : ∃ ao cap, u = .slice ao 0 cap := by
      obtain ⟨ao, cap, h⟩ := h.seq_len
      exact ⟨ao, cap, h⟩
    obtain ⟨ao, cap, rfl⟩ := key
    refine ⟨_, _, ?_, q, .val _⟩
    have hr : (convert t t' (.slice ao 0 cap)).run P w = .ok (.string ⟨#[]⟩) w := by
      rw [run_convert_bytes_string w t t' e _ 0 cap ht he ht']
      cases ao <;> simp [Conv.bytesToString, loadCells, loadCellsFrom, ByteArray.empty, ByteArray.emptyWithCapacity] <;> rfl
    simp [execOp, ho, hu, hr]
/-- any bytes as a text -/
theorem op_bytestra {x : Operand} {t t' e : TypeId} {v : AV} {xs : List Int} (ho : o.op = .convert t t' x) (ht : P.underlying t = some (.slice e)) (he : P.underlying e = some (.int .u8)) (ht' : P.underlying t' = some .string) (hx : al.ev x = some v) (hv : IsSeq v 1 (bts xs)) (q : K (.val (.string (strOfNums xs))) M) : OpT P o al M K := by
  by_cases h0 : xs = []
  · subst h0
    exact op_bytestr0 ho ht he ht' hx hv q
  · exact op_bytestr ho ht he ht' hx hv h0 q
theorem op_sgtr {x y : Operand} {t t' : TypeId} {a b : ByteArray} (ho : o.op = .binOp .gtr t x y t') (hx : al.ev x = some (.val (.string a))) (hy : al.ev y = some (.val (.string b))) (q : ∀ c : Bool, (c = true ↔ ¬ (Op.bytesLess a.toList b.toList = true ∨ a.toList = b.toList)) → K (.val (.bool c)) M) : OpT P o al M K :=
  OpT.plain fun n B F Mf ac w hi hs => ⟨.bool (!(Op.bytesLess a.toList b.toList || a.toList == b.toList)), _, by simp [execOp, ho, ev_val hs hx, ev_val hs hy, eqGuard_str, binOp, Op.stringOp], q _ (by simp), .val _⟩
theorem op_slssc {x y : Operand} {t t' : TypeId} {a b : ByteArray} (ho : o.op = .binOp .lss t x y t') (hx : al.ev x = some (.val (.string a))) (hy : al.ev y = some (.val (.string b))) (q : ∀ c : Bool, (c = true ↔ Op.bytesLess a.toList b.toList = true) → K (.val (.bool c)) M) : OpT P o al M K :=
  op_slss ho hx hy (q _ Iff.rfl)
end
theorem Le.seqt {a b : ByteArray} (h : a = b) : Le (.val (.string a)) (.val (.string b)) := by rw [h]; exact Le.refl _
/-- what the two orders say of each other -/
theorem cmp_less : ∀ a b : List UInt8, (Op.bytesLess a b = true ↔ Lib.compareBytes a b = -1) ∧ (a = b ↔ Lib.compareBytes a b = 0)
  | [], [] => by simp [Op.bytesLess, Lib.compareBytes]
  | [], _ :: _ => by simp [Op.bytesLess, Lib.compareBytes]
  | _ :: _, [] => by simp [Op.bytesLess, Lib.compareBytes]
  | a :: x, b :: y => by
    obtain ⟨h1, h2⟩ := cmp_less x y
    simp only [Op.bytesLess, Lib.compareBytes, Bool.or_eq_true, decide_eq_true_eq, Bool.and_eq_true, beq_iff_eq, List.cons.injEq]
    by_cases q : a < b
    · have : a ≠ b := fun e => by subst e; exact absurd q (UInt8.lt_irrefl _)
      simp [q, this]
    · by_cases q2 : b < a
      · have : a ≠ b := fun e => by subst e; exact absurd q2 (UInt8.lt_irrefl _)
        simp [q, q2, this]
      · have : a = b := UInt8.le_antisymm (UInt8.not_lt.1 q2) (UInt8.not_lt.1 q)
        subst this
        simp [h1, h2]
theorem cmp_three : ∀ a b : List UInt8, Lib.compareBytes a b = -1 ∨ Lib.compareBytes a b = 0 ∨ Lib.compareBytes a b = 1
  | [], [] => by simp [Lib.compareBytes]
  | [], _ :: _ => by simp [Lib.compareBytes]
  | _ :: _, [] => by simp [Lib.compareBytes]
  | a :: x, b :: y => by
    rw [Lib.compareBytes]
    split
    · exact .inl rfl
    · split
      · exact .inr (.inr rfl)
      · exact cmp_three x y
theorem ba_list (a : ByteArray) : a.toList = a.data.toList := by
  rw [ByteArray.toList_eq]
end Go.Proofs.Ytflkdojahfmbnaa
