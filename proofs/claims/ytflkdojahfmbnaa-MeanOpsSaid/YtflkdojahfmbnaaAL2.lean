/- A logic of trees, part 2: the rules of operations that compute and read, and of calls. -/
import Derived.Test.YtflkdojahfmbnaaAL1
import Derived.IntWalk
namespace Go.Proofs.Ytflkdojahfmbnaa
open Go.RowKit
section
variable {P : Program} {al : Sl} {M : Mem} {K : AV → Mem → Prop} {o : Oper}
/-- an operation that leaves the world alone -/
theorem OpT.plain (h : ∀ (n B : Nat) (F : EH) (Mf : Mem) (a : Act) (w : World), Inv B F (M ++ Mf) w → Slots n F al a.tmps → ∃ u v, (execOp a.eval o).run P w = .ok (.value u) w ∧ K v M ∧ Rel F v u) : OpT P o al M K := by
  intro n B F Mf a w hi hs ro
  obtain ⟨u, v, h1, h2, h3⟩ := h n B F Mf a w hi hs
  exact wpR_value h1 ⟨u, v, M, F, rfl, h2, h3, Ext.refl F, hi, Below.refl _ _⟩
theorem op_move {x : Operand} {v : AV} (ho : o.op = .move x) (hx : al.ev x = some v) (k : K v M) : OpT P o al M K :=
  OpT.plain fun n B F Mf a w hi hs => ⟨a.eval x, v, by simp [execOp, ho], k, hs.ev hx⟩
theorem op_assign {x : Operand} {v : AV} (ho : o.op = .assign x) (hx : al.ev x = some v) (k : K v M) : OpT P o al M K :=
  OpT.plain fun n B F Mf a w hi hs => ⟨a.eval x, v, by simp [execOp, ho], k, hs.ev hx⟩
theorem ev_val {n : Nat} {F : EH} {a : Act} (hs : Slots n F al a.tmps) {x : Operand} {v : Value} (hx : al.ev x = some (.val v)) : a.eval x = v := by
  have h := hs.ev hx
  generalize a.eval x = u at h
  cases h; rfl
theorem op_pick {c x y : Operand} {v : AV} {b : Bool} (ho : o.op = .pick c x y) (hc : al.ev c = some (.val (.bool b))) (hx : al.ev (if b then x else y) = some v) (k : K v M) : OpT P o al M K :=
  OpT.plain fun n B F Mf a w hi hs => ⟨a.eval (if b then x else y), v, by
    have h := ev_val hs hc
    cases b <;> simp [execOp, ho, h, asBool], k, hs.ev hx⟩
theorem eqGuard_int {op : BinOp} {t : TypeId} {x y : Operand} {k k' : IntKind} {a b : Int} {w : World} : (eqGuard op t x y (.int k a) (.int k' b)).run P w = .ok () w := by
  unfold eqGuard; split <;> simp
theorem eqGuard_str {op : BinOp} {t : TypeId} {x y : Operand} {a b : ByteArray} {w : World} : (eqGuard op t x y (.string a) (.string b)).run P w = .ok () w := by
  unfold eqGuard; split <;> simp
theorem eqGuard_boo {op : BinOp} {t : TypeId} {x y : Operand} {a b : Bool} {w : World} : (eqGuard op t x y (.bool a) (.bool b)).run P w = .ok () w := by
  unfold eqGuard; split <;> simp
theorem op_add {x y : Operand} {t t' : TypeId} {k : IntKind} {a b r : Int} (ho : o.op = .binOp .add t x y t') (hx : al.ev x = some (.val (.int k a))) (hy : al.ev y = some (.val (.int k b))) (hr : k.wrap (a + b) = r) (q : K (.val (.int k r)) M) : OpT P o al M K :=
  OpT.plain fun n B F Mf ac w hi hs => ⟨.int k (k.wrap (a + b)), .val (.int k (k.wrap (a + b))), by simp [execOp, ho, ev_val hs hx, ev_val hs hy, eqGuard_int, binOp, Op.intArith], by rw [hr]; exact q, .val _⟩
theorem op_sub {x y : Operand} {t t' : TypeId} {k : IntKind} {a b r : Int} (ho : o.op = .binOp .sub t x y t') (hx : al.ev x = some (.val (.int k a))) (hy : al.ev y = some (.val (.int k b))) (hr : k.wrap (a - b) = r) (q : K (.val (.int k r)) M) : OpT P o al M K :=
  OpT.plain fun n B F Mf ac w hi hs => ⟨.int k (k.wrap (a - b)), .val (.int k (k.wrap (a - b))), by simp [execOp, ho, ev_val hs hx, ev_val hs hy, eqGuard_int, binOp, Op.intArith], by rw [hr]; exact q, .val _⟩
theorem op_mul {x y : Operand} {t t' : TypeId} {k : IntKind} {a b r : Int} (ho : o.op = .binOp .mul t x y t') (hx : al.ev x = some (.val (.int k a))) (hy : al.ev y = some (.val (.int k b))) (hr : k.wrap (a * b) = r) (q : K (.val (.int k r)) M) : OpT P o al M K :=
  OpT.plain fun n B F Mf ac w hi hs => ⟨.int k (k.wrap (a * b)), .val (.int k (k.wrap (a * b))), by simp [execOp, ho, ev_val hs hx, ev_val hs hy, eqGuard_int, binOp, Op.intArith], by rw [hr]; exact q, .val _⟩
theorem op_quo {x y : Operand} {t t' : TypeId} {k : IntKind} {a b r : Int} (ho : o.op = .binOp .quo t x y t') (hx : al.ev x = some (.val (.int k a))) (hy : al.ev y = some (.val (.int k b))) (hb : b ≠ 0) (hr : k.wrap (a.tdiv b) = r) (q : K (.val (.int k r)) M) : OpT P o al M K :=
  OpT.plain fun n B F Mf ac w hi hs => ⟨.int k (k.wrap (a.tdiv b)), .val (.int k (k.wrap (a.tdiv b))), by simp [execOp, ho, ev_val hs hx, ev_val hs hy, eqGuard_int, binOp, Op.intDiv, hb], by rw [hr]; exact q, .val _⟩
theorem op_rem {x y : Operand} {t t' : TypeId} {k : IntKind} {a b r : Int} (ho : o.op = .binOp .rem t x y t') (hx : al.ev x = some (.val (.int k a))) (hy : al.ev y = some (.val (.int k b))) (hb : b ≠ 0) (hr : a.tmod b = r) (q : K (.val (.int k r)) M) : OpT P o al M K :=
  OpT.plain fun n B F Mf ac w hi hs => ⟨.int k (a.tmod b), .val (.int k (a.tmod b)), by simp [execOp, ho, ev_val hs hx, ev_val hs hy, eqGuard_int, binOp, Op.intDiv, hb], by rw [hr]; exact q, .val _⟩
theorem op_lss {x y : Operand} {t t' : TypeId} {k : IntKind} {a b : Int} (ho : o.op = .binOp .lss t x y t') (hx : al.ev x = some (.val (.int k a))) (hy : al.ev y = some (.val (.int k b))) (q : ∀ c : Bool, (c = true ↔ a < b) → K (.val (.bool c)) M) : OpT P o al M K :=
  OpT.plain fun n B F Mf ac w hi hs => ⟨_, _, by simp [execOp, ho, ev_val hs hx, ev_val hs hy, eqGuard_int, binOp, Op.intCmp], q (decide (a < b)) (by simp), .val _⟩
theorem op_leq {x y : Operand} {t t' : TypeId} {k : IntKind} {a b : Int} (ho : o.op = .binOp .leq t x y t') (hx : al.ev x = some (.val (.int k a))) (hy : al.ev y = some (.val (.int k b))) (q : ∀ c : Bool, (c = true ↔ a ≤ b) → K (.val (.bool c)) M) : OpT P o al M K :=
  OpT.plain fun n B F Mf ac w hi hs => ⟨_, _, by simp [execOp, ho, ev_val hs hx, ev_val hs hy, eqGuard_int, binOp, Op.intCmp], q (decide (a ≤ b)) (by simp), .val _⟩
theorem op_gtr {x y : Operand} {t t' : TypeId} {k : IntKind} {a b : Int} (ho : o.op = .binOp .gtr t x y t') (hx : al.ev x = some (.val (.int k a))) (hy : al.ev y = some (.val (.int k b))) (q : ∀ c : Bool, (c = true ↔ b < a) → K (.val (.bool c)) M) : OpT P o al M K :=
  OpT.plain fun n B F Mf ac w hi hs => ⟨_, _, by simp [execOp, ho, ev_val hs hx, ev_val hs hy, eqGuard_int, binOp, Op.intCmp], q (decide (b < a)) (by simp), .val _⟩
theorem op_geq {x y : Operand} {t t' : TypeId} {k : IntKind} {a b : Int} (ho : o.op = .binOp .geq t x y t') (hx : al.ev x = some (.val (.int k a))) (hy : al.ev y = some (.val (.int k b))) (q : ∀ c : Bool, (c = true ↔ b ≤ a) → K (.val (.bool c)) M) : OpT P o al M K :=
  OpT.plain fun n B F Mf ac w hi hs => ⟨_, _, by simp [execOp, ho, ev_val hs hx, ev_val hs hy, eqGuard_int, binOp, Op.intCmp], q (decide (b ≤ a)) (by simp), .val _⟩
theorem op_eql {x y : Operand} {t t' : TypeId} {k : IntKind} {a b : Int} (ho : o.op = .binOp .eql t x y t') (hx : al.ev x = some (.val (.int k a))) (hy : al.ev y = some (.val (.int k b))) (q : ∀ c : Bool, (c = true ↔ a = b) → K (.val (.bool c)) M) : OpT P o al M K :=
  OpT.plain fun n B F Mf ac w hi hs => ⟨_, _, by simp [execOp, ho, ev_val hs hx, ev_val hs hy, eqGuard_int, binOp, Op.intCmp], q (a == b) (by simp), .val _⟩
theorem op_neq {x y : Operand} {t t' : TypeId} {k : IntKind} {a b : Int} (ho : o.op = .binOp .neq t x y t') (hx : al.ev x = some (.val (.int k a))) (hy : al.ev y = some (.val (.int k b))) (q : ∀ c : Bool, (c = true ↔ a ≠ b) → K (.val (.bool c)) M) : OpT P o al M K :=
  OpT.plain fun n B F Mf ac w hi hs => ⟨_, _, by simp [execOp, ho, ev_val hs hx, ev_val hs hy, eqGuard_int, binOp, Op.intCmp], q (a != b) (by simp), .val _⟩
theorem ba_eq {a b : ByteArray} (h : a.toList = b.toList) : a = b := by
  rw [ByteArray.toList_eq, ByteArray.toList_eq] at h
  obtain ⟨⟨a⟩⟩ := a
  obtain ⟨⟨b⟩⟩ := b
  simpa using h
theorem op_seql {x y : Operand} {t t' : TypeId} {a b : ByteArray} (ho : o.op = .binOp .eql t x y t') (hx : al.ev x = some (.val (.string a))) (hy : al.ev y = some (.val (.string b))) (q : ∀ c : Bool, (c = true ↔ a = b) → K (.val (.bool c)) M) : OpT P o al M K :=
  OpT.plain fun n B F Mf ac w hi hs => ⟨_, _, by simp [execOp, ho, ev_val hs hx, ev_val hs hy, eqGuard_str, binOp, Op.stringOp], q (a.toList == b.toList) (by simp; exact ⟨ba_eq, fun h => by rw [h]⟩), .val _⟩
theorem op_sneq {x y : Operand} {t t' : TypeId} {a b : ByteArray} (ho : o.op = .binOp .neq t x y t') (hx : al.ev x = some (.val (.string a))) (hy : al.ev y = some (.val (.string b))) (q : ∀ c : Bool, (c = true ↔ a ≠ b) → K (.val (.bool c)) M) : OpT P o al M K :=
  OpT.plain fun n B F Mf ac w hi hs => ⟨_, _, by simp [execOp, ho, ev_val hs hx, ev_val hs hy, eqGuard_str, binOp, Op.stringOp], q (!(a.toList == b.toList)) (by simp; exact ⟨fun h e => h (by rw [e]), fun h e => h (ba_eq e)⟩), .val _⟩
theorem op_slss {x y : Operand} {t t' : TypeId} {a b : ByteArray} (ho : o.op = .binOp .lss t x y t') (hx : al.ev x = some (.val (.string a))) (hy : al.ev y = some (.val (.string b))) (q : K (.val (.bool (Op.bytesLess a.toList b.toList))) M) : OpT P o al M K :=
  OpT.plain fun n B F Mf ac w hi hs => ⟨_, _, by simp [execOp, ho, ev_val hs hx, ev_val hs hy, eqGuard_str, binOp, Op.stringOp], q, .val _⟩
theorem op_sadd {x y : Operand} {t t' : TypeId} {a b : ByteArray} (ho : o.op = .binOp .add t x y t') (hx : al.ev x = some (.val (.string a))) (hy : al.ev y = some (.val (.string b))) (hm : a.size + b.size ≤ 9223372036854775807) (q : K (.val (.string (a ++ b))) M) : OpT P o al M K :=
  OpT.plain fun n B F Mf ac w hi hs => ⟨_, _, by
    have : ¬ (((a.size + b.size : Nat) : Int) > IntKind.i64.max) := by
      have : IntKind.i64.max = 9223372036854775807 := by decide
      rw [this]; omega
    simp only [execOp, ho, ev_val hs hx, ev_val hs hy, Sem.run_bind, eqGuard_str, Result.andThen_ok, binOp, Op.stringOp, if_neg this, Sem.run_pure], q, .val _⟩
theorem equal_boo {t : TypeId} (ht : P.underlying t = some .bool) (a b : Bool) (w : World) : (Op.equal t (.bool a) (.bool b)).run P w = .ok (a == b) w := by
  unfold Op.equal
  have : Op.maxDepth = 9999 + 1 := rfl
  rw [this, Op.equalIn]
  simp only [Sem.run_bind, underlying, run_program, Result.andThen_ok, ht, Sem.run_pure]
theorem op_beql {x y : Operand} {t t' : TypeId} {a b : Bool} (ho : o.op = .binOp .eql t x y t') (ht : P.underlying t = some .bool) (hx : al.ev x = some (.val (.bool a))) (hy : al.ev y = some (.val (.bool b))) (q : K (.val (.bool (a == b))) M) : OpT P o al M K :=
  OpT.plain fun n B F Mf ac w hi hs => ⟨_, _, by simp [execOp, ho, ev_val hs hx, ev_val hs hy, eqGuard_boo, binOp, equal_boo ht], q, .val _⟩
theorem op_bneq {x y : Operand} {t t' : TypeId} {a b : Bool} (ho : o.op = .binOp .neq t x y t') (ht : P.underlying t = some .bool) (hx : al.ev x = some (.val (.bool a))) (hy : al.ev y = some (.val (.bool b))) (q : K (.val (.bool (!(a == b)))) M) : OpT P o al M K :=
  OpT.plain fun n B F Mf ac w hi hs => ⟨_, _, by simp [execOp, ho, ev_val hs hx, ev_val hs hy, eqGuard_boo, binOp, equal_boo ht], q, .val _⟩
theorem op_not {x : Operand} {t : TypeId} {b : Bool} (ho : o.op = .unOp .not t x) (hx : al.ev x = some (.val (.bool b))) (q : K (.val (.bool (!b))) M) : OpT P o al M K :=
  OpT.plain fun n B F Mf ac w hi hs => ⟨_, _, by simp [execOp, ho, ev_val hs hx, Op.unary], q, .val _⟩
theorem op_neg {x : Operand} {t : TypeId} {k : IntKind} {a r : Int} (ho : o.op = .unOp .neg t x) (hx : al.ev x = some (.val (.int k a))) (hr : k.wrap (0 - a) = r) (q : K (.val (.int k r)) M) : OpT P o al M K :=
  OpT.plain fun n B F Mf ac w hi hs => ⟨_, _, by simp only [execOp, ho, ev_val hs hx, Op.unary, Op.intArith, Sem.run_bind, Sem.run_pure, Result.andThen_ok, hr], q, .val _⟩
theorem op_extract {x : Operand} {i : Nat} {vs : List AV} {v : AV} (ho : o.op = .extract x i) (hx : al.ev x = some (.tup vs)) (hv : vs[i]? = some v) (q : K v M) : OpT P o al M K :=
  OpT.plain fun n B F Mf ac w hi hs => by
    have h := hs.ev hx
    generalize he : ac.eval x = u at h
    cases h with
    | tup h =>
      obtain ⟨u, h1, h2⟩ := h.get hv
      refine ⟨u, v, ?_, q, h2⟩
      simp [execOp, ho, he, Instr.extract, h1]
/-- a struct's or an array's size; none: one cell -/
def tyAgg (P : Program) (t : TypeId) : Option (Option Nat) :=
  match P.underlying t, P.info? t with
  | some (.struct _), some i => some (some i.size)
  | some (.array _ _), some i => some (some i.size)
  | some _, some i => if i.size = 1 then some none else none
  | _, _ => none
theorem tyAgg_some {t : TypeId} {s : Nat} (h : tyAgg P t = some (some s)) (w : World) : (isAgg t).run P w = .ok true w ∧ (sizeOf t).run P w = .ok s w := by
  unfold tyAgg at h
  split at h <;> first | (simp at h; done) | skip
  · rename_i i hu hi
    simp at h; subst h
    simp [isAgg, underlying, hu, sizeOf, typeInfo, hi]
  · rename_i i hu hi
    simp at h; subst h
    simp [isAgg, underlying, hu, sizeOf, typeInfo, hi]
theorem tyAgg_none {t : TypeId} (h : tyAgg P t = some none) (w : World) : (isAgg t).run P w = .ok false w ∧ (sizeOf t).run P w = .ok 1 w := by
  unfold tyAgg at h
  split at h <;> first | (simp at h; done) | skip
  rename_i d i hu hi h1 h2
  split at h
  · rename_i hsz
    constructor
    · unfold isAgg
      simp only [underlying, Sem.run_bind, run_program, Result.andThen_ok, h1]
      cases d <;> first | (rename_i x; exact absurd rfl (hu x)) | (rename_i x y; exact absurd rfl (hi x y)) | simp
    · simp [sizeOf, typeInfo, h2, hsz]
  · simp at h
theorem loadCells_run {w : World} {b off : Nat} {vs : List Value} (h : ∀ j x, vs[j]? = some x → w.cell? ⟨b, off + j, none⟩ = some x) : (loadCells ⟨b, off, none⟩ vs.length).run P w = .ok vs.toArray w := by
  have key : ∀ (us : List Value) (i : Nat) (acc : Array Value), (∀ j x, us[j]? = some x → w.cell? ⟨b, off + (i + j), none⟩ = some x) → (loadCellsFrom ⟨b, off, none⟩ i us.length acc).run P w = .ok (acc ++ us.toArray) w := by
    intro us
    induction us with
    | nil => intro i acc _; simp [loadCellsFrom]
    | cons u us ih =>
      intro i acc h
      have h0 := h 0 u (by simp)
      have e : (⟨b, off, none⟩ : Addr).add i = ⟨b, off + i, none⟩ := by unfold Addr.add; split <;> simp_all
      simp only [List.length_cons, loadCellsFrom, Sem.run_bind, run_load, e, Nat.add_zero] at h0 ⊢
      rw [h0]
      simp only [Result.andThen_ok]
      rw [ih (i + 1) (acc.push u) (fun j x hx => by
        have := h (j + 1) x (by simpa using hx)
        rwa [show i + (j + 1) = i + 1 + j from by omega] at this)]
      simp
  have := key vs 0 #[] (fun j x hx => by simpa using h j x hx)
  simpa [loadCells] using this
theorem op_load_c {x : Operand} {t : TypeId} {s : Nat} {cs cs' : List AV} (ho : o.op = .load t x) (ht : tyAgg P t = some (some s)) (hx : al.ev x = some (.cptr cs)) (hc : cs.take s = cs') (hl : cs'.length = s) (q : K (.agg cs') M) : OpT P o al M K :=
  OpT.plain fun n B F Mf ac w hi hs => by
    have h := hs.ev hx
    generalize he : ac.eval x = u at h
    cases h with
    | cptr b off hlies h h1 =>
      rename_i vs
      have hr := h.take s
      rw [hc] at hr
      have hln := hr.len
      rw [hl] at hln
      refine ⟨.agg (vs.take s).toArray, _, ?_, q, .agg hr (fun v hv => h1 v (List.mem_of_mem_take hv))⟩
      have hcell : ∀ j x, (vs.take s)[j]? = some x → w.cell? ⟨b, off + j, none⟩ = some x := by
        intro j x hx
        refine hi.fix _ _ _ (hlies j x ?_)
        rw [List.getElem?_take] at hx
        split at hx
        · exact hx
        · simp at hx
      have hload := loadCells_run (P := P) hcell
      rw [← hln] at hload
      obtain ⟨a1, a2⟩ := tyAgg_some ht w
      simp [execOp, ho, he, Instr.loadAt, Instr.sureAddr, loadVar, a1, a2, hload]
theorem op_load_c1 {x : Operand} {t : TypeId} {c : AV} {cs : List AV} (ho : o.op = .load t x) (ht : tyAgg P t = some none) (hx : al.ev x = some (.cptr cs)) (hc : cs[0]? = some c) (q : K c M) : OpT P o al M K :=
  OpT.plain fun n B F Mf ac w hi hs => by
    have h := hs.ev hx
    generalize he : ac.eval x = u at h
    cases h with
    | cptr b off hlies h h1 =>
      obtain ⟨v, h2, h3⟩ := h.get hc
      refine ⟨v, c, ?_, q, h3⟩
      have hcell := hi.fix _ _ _ (hlies 0 v h2)
      obtain ⟨a1, a2⟩ := tyAgg_none ht w
      simp only [Nat.add_zero] at hcell
      simp [execOp, ho, he, Instr.loadAt, Instr.sureAddr, loadVar, a1, hcell]
/-- a block that may be written -/
theorem Inv.loc {B : Nat} {F : EH} {Mf : Mem} {w : World} (hi : Inv B F (M ++ Mf) w) {b : Nat} {cs : List AV} {i : Nat} (hm : M[i]? = some (.loc b cs)) :
    B ≤ b ∧ (∀ i, F b i = none) ∧ ∃ vs T, w.heap[b]? = some (.cells vs.toArray T (0, 0)) ∧ Rels F cs vs ∧ Ones vs :=
  hi.ok (.loc b cs) (List.mem_append_left _ (List.mem_of_getElem? hm))
theorem cell_block {w : World} {b : Nat} {vs : List Value} {T : TypeId} {f : Nat × Nat} (h : w.heap[b]? = some (.cells vs.toArray T f)) (j : Nat) : w.cell? ⟨b, j, none⟩ = vs[j]? := by
  unfold World.cell?
  simp [h]
theorem op_load_m {x : Operand} {t : TypeId} {s b off i : Nat} {cs cs' : List AV} (ho : o.op = .load t x) (ht : tyAgg P t = some (some s)) (hx : al.ev x = some (.ptr b off)) (hm : M[i]? = some (.loc b cs)) (hc : (cs.drop off).take s = cs') (hl : cs'.length = s) (q : K (.agg cs') M) : OpT P o al M K :=
  OpT.plain fun n B F Mf ac w hi hs => by
    have h := hs.ev hx
    generalize he : ac.eval x = u at h
    cases h with
    | ptr =>
      obtain ⟨_, _, vs, T, hb, hr0, h1⟩ := hi.loc hm
      have hr := (hr0.drop off).take s
      rw [hc] at hr
      have hln := hr.len
      rw [hl] at hln
      refine ⟨.agg ((vs.drop off).take s).toArray, _, ?_, q, .agg hr (fun v hv => h1 v (List.mem_of_mem_drop (List.mem_of_mem_take hv)))⟩
      have hcell : ∀ j x, ((vs.drop off).take s)[j]? = some x → w.cell? ⟨b, off + j, none⟩ = some x := by
        intro j x hx
        rw [cell_block hb]
        rw [List.getElem?_take] at hx
        split at hx
        · rwa [List.getElem?_drop] at hx
        · simp at hx
      have hload := loadCells_run (P := P) hcell
      rw [← hln] at hload
      obtain ⟨a1, a2⟩ := tyAgg_some ht w
      simp [execOp, ho, he, Instr.loadAt, Instr.sureAddr, loadVar, a1, a2, hload]
theorem op_load_m1 {x : Operand} {t : TypeId} {b off i : Nat} {c : AV} {cs : List AV} (ho : o.op = .load t x) (ht : tyAgg P t = some none) (hx : al.ev x = some (.ptr b off)) (hm : M[i]? = some (.loc b cs)) (hc : cs[off]? = some c) (q : K c M) : OpT P o al M K :=
  OpT.plain fun n B F Mf ac w hi hs => by
    have h := hs.ev hx
    generalize he : ac.eval x = u at h
    cases h with
    | ptr =>
      obtain ⟨_, _, vs, T, hb, hr0, h1⟩ := hi.loc hm
      obtain ⟨v, h2, h3⟩ := hr0.get hc
      refine ⟨v, c, ?_, q, h3⟩
      have hcell := cell_block hb off
      rw [h2] at hcell
      obtain ⟨a1, a2⟩ := tyAgg_none ht w
      simp [execOp, ho, he, Instr.loadAt, Instr.sureAddr, loadVar, a1, hcell]
/-- where a field lies -/
def tyFld (P : Program) (t : TypeId) (f : Nat) : Option Nat :=
  match P.underlying t with
  | some (.struct fs) => match fs[f]? with
    | some g => match P.info? g.type with
      | some i => if i.size = 0 then none else some g.offset
      | none => none
    | none => none
  | _ => none
theorem tyFld_run {t : TypeId} {f off : Nat} (h : tyFld P t f = some off) (b o' : Nat) (w : World) : (Instr.fieldAt t (.pointer (some ⟨b, o', none⟩)) f).run P w = .ok (.pointer (some ⟨b, o' + off, none⟩)) w := by
  unfold tyFld at h
  split at h <;> first | (simp at h; done) | skip
  rename_i fs hu
  split at h <;> first | (simp at h; done) | skip
  rename_i g hg
  split at h <;> first | (simp at h; done) | skip
  rename_i i hi
  split at h <;> first | (simp at h; done) | skip
  rename_i hz
  simp at h
  subst h
  have e : (⟨b, o', none⟩ : Addr).add g.offset = ⟨b, o' + g.offset, none⟩ := by unfold Addr.add; split <;> simp_all
  simp [Instr.fieldAt, underlying, hu, hg, Instr.sureAddr, fieldPlace, sizeOf, typeInfo, hi, hz, e]
theorem op_fieldAddr_m {x : Operand} {t : TypeId} {f b off fo : Nat} (ho : o.op = .fieldAddr t x f) (ht : tyFld P t f = some fo) (hx : al.ev x = some (.ptr b off)) (q : K (.ptr b (off + fo)) M) : OpT P o al M K :=
  OpT.plain fun n B F Mf ac w hi hs => by
    have h := hs.ev hx
    generalize he : ac.eval x = u at h
    cases h with
    | ptr => exact ⟨_, _, by simp [execOp, ho, he, tyFld_run ht], q, .ptr _ _⟩
theorem op_fieldAddr_c {x : Operand} {t : TypeId} {f fo : Nat} {cs cs' : List AV} (ho : o.op = .fieldAddr t x f) (ht : tyFld P t f = some fo) (hx : al.ev x = some (.cptr cs)) (hc : cs.drop fo = cs') (q : K (.cptr cs') M) : OpT P o al M K :=
  OpT.plain fun n B F Mf ac w hi hs => by
    have h := hs.ev hx
    generalize he : ac.eval x = u at h
    cases h with
    | cptr b off hlies h h1 =>
      refine ⟨.pointer (some ⟨b, off + fo, none⟩), _, by simp [execOp, ho, he, tyFld_run ht], q, ?_⟩
      subst hc
      refine .cptr b (off + fo) (fun j x hx => ?_) (h.drop fo) (fun v hv => h1 v (List.mem_of_mem_drop hv))
      rw [List.getElem?_drop] at hx
      rw [Nat.add_assoc]
      exact hlies _ _ hx
theorem op_nilCheck_m {x : Operand} {b off : Nat} (ho : o.op = .nilCheck x) (hx : al.ev x = some (.ptr b off)) (q : K (.ptr b off) M) : OpT P o al M K :=
  OpT.plain fun n B F Mf ac w hi hs => by
    have h := hs.ev hx
    generalize he : ac.eval x = u at h
    cases h with
    | ptr => exact ⟨_, _, by simp [execOp, ho, he], q, .ptr _ _⟩
theorem op_nilCheck_c {x : Operand} {cs : List AV} (ho : o.op = .nilCheck x) (hx : al.ev x = some (.cptr cs)) (q : K (.cptr cs) M) : OpT P o al M K :=
  OpT.plain fun n B F Mf ac w hi hs => by
    have h := hs.ev hx
    generalize he : ac.eval x = u at h
    cases h with
    | cptr b off hlies h h1 => exact ⟨_, _, by simp [execOp, ho, he], q, .cptr b off hlies h h1⟩
theorem op_nilCheck_f {x : Operand} {f : FuncId} {fs cs : List AV} (ho : o.op = .nilCheck x) (hx : al.ev x = some (.clo (.func f) fs cs)) (q : K (.clo (.func f) fs cs) M) : OpT P o al M K :=
  OpT.plain fun n B F Mf ac w hi hs => by
    have h := hs.ev hx
    generalize he : ac.eval x = u at h
    cases h with
    | clo fn h1 h2 => exact ⟨_, _, by simp [execOp, ho, he], q, .clo _ h1 h2⟩
/-- the elements of a value that is a slice -/
inductive IsSeq : AV → Nat → List (List AV) → Prop
  | seq (m : Nat) (es : List (List AV)) : IsSeq (.seq m es) m es
  | own (u : Value) (m : Nat) (es : List (List AV)) : IsSeq (.own u m es) m es
  | nil (m : Nat) : IsSeq (.val (.slice none 0 0)) m []
theorem IsSeq.rel {v : AV} {m : Nat} {es : List (List AV)} (h : IsSeq v m es) {F : EH} {u : Value} (hr : Rel F v u) : Rel F (.seq m es) u := by
  cases h with
  | seq => exact hr
  | own => cases hr with | own _ h => exact h
  | nil => cases hr with | val => exact .seq0 m none 0 (fun _ => rfl)
theorem Rel.seq_len {F : EH} {m : Nat} {es : List (List AV)} {u : Value} (h : Rel F (.seq m es) u) : ∃ ao cap, u = .slice ao es.length cap := by
  cases h with
  | seq0 _ ao cap _ => exact ⟨ao, cap, rfl⟩
  | seq b off cap _ _ _ _ _ _ => exact ⟨_, cap, rfl⟩
theorem Rel.seq_max {F : EH} {m : Nat} {es : List (List AV)} {u : Value} (h : Rel F (.seq m es) u) : es.length ≤ 9223372036854775807 := by
  cases h with
  | seq0 _ ao cap _ => simp
  | seq b off cap _ hn _ _ _ _ => unfold maxLen at hn; exact hn
theorem op_len {x : Operand} {t : TypeId} {e : TypeId} {v : AV} {m : Nat} {es : List (List AV)} (ho : o.op = .call { callee := .builtin .len, args := #[x], argTypes := #[t] }) (ht : P.underlying t = some (.slice e)) (hx : al.ev x = some v) (hv : IsSeq v m es) (q : es.length ≤ 9223372036854775807 → K (.val (.int .i64 es.length)) M) : OpT P o al M K :=
  OpT.plain fun n B F Mf ac w hi hs => by
    have hmax := (hv.rel (hs.ev hx)).seq_max
    obtain ⟨ao, cap, he⟩ := (hv.rel (hs.ev hx)).seq_len
    refine ⟨_, _, ?_, q hmax, .val _⟩
    simp [execOp, ho, resolve, invoke, builtin, Builtin.len_, he, underlying, ht, goInt]
theorem op_len_arr {x : Operand} {t : TypeId} {e : TypeId} {b off k cap : Nat} (ho : o.op = .call { callee := .builtin .len, args := #[x], argTypes := #[t] }) (ht : P.underlying t = some (.slice e)) (hx : al.ev x = some (.arr b off k cap)) (q : K (.val (.int .i64 k)) M) : OpT P o al M K :=
  OpT.plain fun n B F Mf ac w hi hs => by
    have h := hs.ev hx
    generalize he : ac.eval x = u at h
    cases h with
    | arr =>
      refine ⟨_, _, ?_, q, .val _⟩
      simp [execOp, ho, resolve, invoke, builtin, Builtin.len_, he, underlying, ht, goInt]
theorem op_len_str {x : Operand} {t : TypeId} {s : ByteArray} (ho : o.op = .call { callee := .builtin .len, args := #[x], argTypes := #[t] }) (ht : P.underlying t = some .string) (hx : al.ev x = some (.val (.string s))) (q : K (.val (.int .i64 s.size)) M) : OpT P o al M K :=
  OpT.plain fun n B F Mf ac w hi hs => ⟨_, _, by simp [execOp, ho, resolve, invoke, builtin, Builtin.len_, ev_val hs hx, underlying, ht, goInt], q, .val _⟩
theorem eqGuard_sl {op : BinOp} {t : TypeId} {x y : Operand} {a b : Option Addr} {n c n' c' : Nat} {w : World} : (eqGuard op t x y (.slice a n c) (.slice b n' c')).run P w = .ok () w := by
  unfold eqGuard; split <;> simp
theorem equal_sl {t e : TypeId} (ht : P.underlying t = some (.slice e)) (a : Option Addr) (n c : Nat) (w : World) : (Op.equal t (.slice a n c) (.slice none 0 0)).run P w = .ok a.isNone w := by
  unfold Op.equal
  have : Op.maxDepth = 9999 + 1 := rfl
  rw [this, Op.equalIn]
  simp only [Sem.run_bind, underlying, run_program, Result.andThen_ok, ht, Sem.run_pure]
  cases a <;> rfl
/-- is a slice nil? only one without elements may be -/
theorem op_isnil {x : Operand} {t t' e : TypeId} {v : AV} {m : Nat} {es : List (List AV)} (ho : o.op = .binOp .eql t x (.const (.slice none 0 0)) t') (ht : P.underlying t = some (.slice e)) (hx : al.ev x = some v) (hv : IsSeq v m es) (q : ∀ c : Bool, (c = true → es = []) → K (.val (.bool c)) M) : OpT P o al M K :=
  OpT.plain fun n B F Mf ac w hi hs => by
    have hr := hv.rel (hs.ev hx)
    generalize he : ac.eval x = u at hr
    have key : ∃ ao cap, u = .slice ao es.length cap ∧ (ao.isNone = true → es = []) := by
      cases hr with
      | seq0 _ ao cap _ => exact ⟨ao, cap, rfl, fun _ => rfl⟩
      | seq b off cap _ _ _ _ _ _ => exact ⟨_, cap, rfl, fun h => by simp at h⟩
    obtain ⟨ao, cap, rfl, hn⟩ := key
    refine ⟨.bool ao.isNone, .val (.bool ao.isNone), ?_, q _ hn, .val _⟩
    have hc : ac.eval (.const (.slice none 0 0)) = .slice none 0 0 := rfl
    unfold execOp
    simp only [ho, he, hc, Sem.run_bind, eqGuard_sl, Result.andThen_ok, binOp, equal_sl ht, Sem.run_pure]
theorem op_notnil {x : Operand} {t t' e : TypeId} {v : AV} {m : Nat} {es : List (List AV)} (ho : o.op = .binOp .neq t x (.const (.slice none 0 0)) t') (ht : P.underlying t = some (.slice e)) (hx : al.ev x = some v) (hv : IsSeq v m es) (q : ∀ c : Bool, (c = false → es = []) → K (.val (.bool c)) M) : OpT P o al M K :=
  OpT.plain fun n B F Mf ac w hi hs => by
    have hr := hv.rel (hs.ev hx)
    generalize he : ac.eval x = u at hr
    have key : ∃ ao cap, u = .slice ao es.length cap ∧ (ao.isNone = true → es = []) := by
      cases hr with
      | seq0 _ ao cap _ => exact ⟨ao, cap, rfl, fun _ => rfl⟩
      | seq b off cap _ _ _ _ _ _ => exact ⟨_, cap, rfl, fun h => by simp at h⟩
    obtain ⟨ao, cap, rfl, hn⟩ := key
    refine ⟨.bool (!ao.isNone), .val (.bool (!ao.isNone)), ?_, q _ (fun h => hn (by simpa using h)), .val _⟩
    have hc : ac.eval (.const (.slice none 0 0)) = .slice none 0 0 := rfl
    unfold execOp
    simp only [ho, he, hc, Sem.run_bind, eqGuard_sl, Result.andThen_ok, binOp, equal_sl ht, Sem.run_pure]
/-- a slice type: its element, and the element's cells -/
def tyElem (P : Program) (t : TypeId) : Option (TypeId × Nat) :=
  match P.underlying t with
  | some (.slice e) => (P.info? e).map fun i => (e, i.size)
  | _ => none
theorem tyElem_run {t e : TypeId} {m : Nat} (h : tyElem P t = some (e, m)) : P.underlying t = some (.slice e) ∧ ∃ i, P.info? e = some i ∧ i.size = m := by
  unfold tyElem at h
  split at h <;> first | (simp at h; done) | skip
  rename_i e' hu
  cases hi : P.info? e' with
  | none => simp [hi] at h
  | some i =>
    simp [hi] at h
    obtain ⟨rfl, rfl⟩ := h
    exact ⟨hu, i, hi, rfl⟩
theorem flat_drop {m : Nat} : ∀ {es : List (List AV)} (_ : ∀ e ∈ es, e.length = m) (i : Nat), es.flatten.drop (i * m) = (es.drop i).flatten
  | [], _, i => by simp
  | e :: es, h, 0 => by simp
  | e :: es, h, i + 1 => by
    have h1 := h e (by simp)
    rw [List.flatten_cons, List.drop_succ_cons, ← flat_drop (fun x hx => h x (by simp [hx])) i, ← h1, Nat.add_mul, Nat.one_mul, Nat.add_comm, ← List.drop_drop]
    simp
/-- one element of a slice -/
theorem Rel.elem {F : EH} {m : Nat} {es : List (List AV)} {u : Value} (h : Rel F (.seq m es) u) {i : Nat} {cs : List AV} (hi : es[i]? = some cs) :
    ∃ b off n cap vs, u = .slice (some ⟨b, off, none⟩) n cap ∧ i < n ∧ n = es.length ∧ Lies F b (off + i * m) vs ∧ Rels F cs vs ∧ Ones vs ∧ cs.length = m := by
  have hlt : i < es.length := by
    rcases Nat.lt_or_ge i es.length with k | k
    · exact k
    · rw [List.getElem?_eq_none k] at hi; simp at hi
  cases h with
  | seq0 _ ao cap _ => simp at hi
  | seq b off cap hm hn hl h h1 hcq =>
    rename_i vs
    have hcm := hm cs (List.mem_of_getElem? hi)
    have hd := h.drop (i * m)
    rw [flat_drop hm i, List.drop_eq_getElem_cons hlt, List.flatten_cons] at hd
    have hcs : es[i] = cs := by rw [List.getElem?_eq_getElem hlt] at hi; simpa using hi
    rw [hcs] at hd
    obtain ⟨us, rest, he, h3, h4⟩ := hd.split
    refine ⟨b, off, es.length, cap, us, rfl, hlt, rfl, fun j x hx => ?_, h3, fun v hv => ?_, hcm⟩
    · have hj : j < us.length := by
        rcases Nat.lt_or_ge j us.length with k | k
        · exact k
        · rw [List.getElem?_eq_none k] at hx; simp at hx
      rw [Nat.add_assoc]
      refine hl _ _ ?_
      rw [← List.getElem?_drop, he, List.getElem?_append_left hj]
      exact hx
    · refine h1 v (List.mem_of_mem_drop (i := i * m) ?_)
      rw [he]; exact List.mem_append_left _ hv
theorem op_index {x y : Operand} {t e : TypeId} {k : IntKind} {m i : Nat} {v : AV} {j : Int} {es : List (List AV)} {cs : List AV} (ho : o.op = .indexAddr t x y) (ht : tyElem P t = some (e, m)) (hx : al.ev x = some v) (hv : IsSeq v m es) (hy : al.ev y = some (.val (.int k j))) (hj : j = i) (hc : es[i]? = some cs) (q : K (.cptr cs) M) : OpT P o al M K :=
  OpT.plain fun n B F Mf ac w hi hs => by
    obtain ⟨b, off, len, cap, vs, he, hlt, rfl, hl, hr, h1, _⟩ := (hv.rel (hs.ev hx)).elem hc
    obtain ⟨hu, inf, hinf, rfl⟩ := tyElem_run ht
    subst hj
    refine ⟨.pointer (some ⟨b, off + i * inf.size, none⟩), .cptr cs, ?_, q, .cptr b _ hl hr h1⟩
    have e1 : (⟨b, off, none⟩ : Addr).add (i * inf.size) = ⟨b, off + i * inf.size, none⟩ := by unfold Addr.add; split <;> simp_all
    simp [execOp, ho, he, ev_val hs hy, Instr.indexAt, asIntOf, underlying, hu, sizeOf, typeInfo, hinf, hlt, e1]
theorem op_index_arr {x y : Operand} {t e : TypeId} {k : IntKind} {m i b off len cap : Nat} {j : Int} (ho : o.op = .indexAddr t x y) (ht : tyElem P t = some (e, m)) (hx : al.ev x = some (.arr b off len cap)) (hy : al.ev y = some (.val (.int k j))) (hj : j = i) (hlt : i < len) (q : K (.ptr b (off + i * m)) M) : OpT P o al M K :=
  OpT.plain fun n B F Mf ac w hi hs => by
    have h := hs.ev hx
    generalize he : ac.eval x = u at h
    cases h with
    | arr =>
      obtain ⟨hu, inf, hinf, rfl⟩ := tyElem_run ht
      subst hj
      refine ⟨.pointer (some ⟨b, off + i * inf.size, none⟩), _, ?_, q, .ptr _ _⟩
      have e1 : (⟨b, off, none⟩ : Addr).add (i * inf.size) = ⟨b, off + i * inf.size, none⟩ := by unfold Addr.add; split <;> simp_all
      simp [execOp, ho, he, ev_val hs hy, Instr.indexAt, asIntOf, underlying, hu, sizeOf, typeInfo, hinf, hlt, e1]
theorem Rels.map_ev {n : Nat} {F : EH} {a : Act} (hs : Slots n F al a.tmps) : ∀ {xs : List Operand} {vs : List AV}, xs.mapM al.ev = some vs → Rels F vs (xs.map a.eval)
  | [], vs, h => by simp at h; subst h; exact .nil
  | x :: xs, vs, h => by
    simp only [List.mapM_cons, Option.bind_eq_bind, Option.bind_eq_some_iff, Option.pure_def, Option.some.injEq] at h
    obtain ⟨v, h1, ws, h2, rfl⟩ := h
    exact .cons (hs.ev h1) (Rels.map_ev hs h2)
theorem op_makeFunc {fn : Fn} {fs cs : List Operand} {vf vc : List AV} (ho : o.op = .makeFunc fn fs.toArray cs.toArray) (hf : fs.mapM al.ev = some vf) (hc : cs.mapM al.ev = some vc) (q : K (.clo fn vf vc) M) : OpT P o al M K :=
  OpT.plain fun n B F Mf ac w hi hs => ⟨.func fn (fs.map ac.eval).toArray (cs.map ac.eval).toArray, _, by simp [execOp, ho, Instr.makeFunc], q, .clo fn (Rels.map_ev hs hf) (Rels.map_ev hs hc)⟩
theorem op_convert {x : Operand} {t t' : TypeId} {k k' : IntKind} {a r : Int} {d : TypeDesc} (ho : o.op = .convert t t' x) (ht : P.underlying t = some d) (ht' : P.underlying t' = some (.int k')) (hx : al.ev x = some (.val (.int k a))) (hr : k'.wrap a = r) (q : K (.val (.int k' r)) M) : OpT P o al M K :=
  OpT.plain fun n B F Mf ac w hi hs => ⟨.int k' (k'.wrap a), .val (.int k' (k'.wrap a)), by simp [execOp, ho, ev_val hs hx, convert, underlying, ht, ht', Conv.intToInt], by rw [hr]; exact q, .val _⟩
theorem op_convert_str {x : Operand} {t t' : TypeId} {s : ByteArray} {d : TypeDesc} (ho : o.op = .convert t t' x) (ht : P.underlying t = some d) (ht' : P.underlying t' = some .string) (hx : al.ev x = some (.val (.string s))) (q : K (.val (.string s)) M) : OpT P o al M K :=
  OpT.plain fun n B F Mf ac w hi hs => ⟨.string s, _, by cases d <;> simp [execOp, ho, ev_val hs hx, convert, underlying, ht, ht'], q, .val _⟩
/-- the function has a body, and a call enters it -/
def Enters (P : Program) (f : FuncId) : Prop := ∀ args w, (callFunc f args).run P w = .ok (.enter f args) w
theorem enters_of {f : FuncId} {fn : Func} (hf : P.funcs[f]? = some fn) (hn : (fn.name == "runtime.NumGoroutine") = false) (hb : fn.body.isNone = false) : Enters P f := by
  intro args w
  unfold callFunc
  simp only [Sem.run_bind, run_program, Result.andThen_ok, hf, hn, hb, Sem.run_pure, Bool.false_eq_true, if_false]
/-- a call: arguments, memory; results, memory -/
structure ACall (P : Program) (f : FuncId) (args : List AV) (M : Mem) (R : AV → Mem → Prop) : Prop where
  ent : Enters P f
  run : ∀ (B : Nat) (F : EH) (Mf : Mem) (w : World) (vs : List Value), Inv B F (M ++ Mf) w → Rels F args vs →
    Calls P f vs.toArray w (fun e w' => ∃ u v M' F', e = .returned u ∧ R v M' ∧ Rel F' v u ∧ Ext F F' ∧ Inv B F' (M' ++ Mf) w' ∧ Below B w w')
theorem ACall.mono {f : FuncId} {args : List AV} {R R' : AV → Mem → Prop} (h : ACall P f args M R) (hr : ∀ v M', R v M' → R' v M') : ACall P f args M R' :=
  ⟨h.ent, fun B F Mf w vs hi hv => (h.run B F Mf w vs hi hv).mono fun _ _ ⟨u, v, M', F', h1, h2, h3⟩ => ⟨u, v, M', F', h1, hr _ _ h2, h3⟩⟩
theorem ACall.frame {f : FuncId} {args : List AV} {R : AV → Mem → Prop} (h : ACall P f args M R) (M1 : Mem) : ACall P f args (M ++ M1) (fun v M' => ∃ M0, M' = M0 ++ M1 ∧ R v M0) :=
  ⟨h.ent, fun B F Mf w vs hi hv => (h.run B F (M1 ++ Mf) w vs (by rw [← List.append_assoc]; exact hi) hv).mono fun _ _ ⟨u, v, M', F', h1, h2, h3, h4, h5, h6⟩ =>
    ⟨u, v, M' ++ M1, F', h1, ⟨M', rfl, h2⟩, h3, h4, by rw [List.append_assoc]; exact h5, h6⟩⟩
theorem ACall.perm {f : FuncId} {args : List AV} {M' : Mem} {R : AV → Mem → Prop} (h : ACall P f args M R) (hp : M'.Perm M) : ACall P f args M' R :=
  ⟨h.ent, fun B F Mf w vs hi hv => h.run B F Mf w vs (hi.perm (hp.append_right Mf)) hv⟩
/-- a function that needs no memory of the caller's, and leaves none but what R says -/
theorem op_call {f : FuncId} {xs : List Operand} {ts : Array TypeId} {vs : List AV} {R : AV → Mem → Prop} (ho : o.op = .call { callee := .value (.func f), args := xs.toArray, argTypes := ts }) (hx : xs.mapM al.ev = some vs) (hc : ACall P f vs M R) (q : ∀ v M', R v M' → K v M') : OpT P o al M K := by
  intro n B F Mf a w hi hs ro
  have e : (execOp a.eval o).run P w = .ok (.enter f (xs.map a.eval).toArray) w := by
    simp only [execOp, ho, resolve, Act.eval, Deferred.ofValue, Sem.run_bind, Sem.run_pure, Result.andThen_ok, invoke, List.map_toArray, List.append_toArray, List.nil_append, List.append_nil]
    exact hc.ent _ _
  refine wpR_enter e ((hc.run B F Mf w _ hi (Rels.map_ev hs hx)).mono ?_)
  rintro e w' ⟨u, v, M', F', rfl, h2, h3, h4, h5, h6⟩
  exact ⟨u, rfl, u, v, M', F', rfl, q v M' h2, h3, h4, h5, h6⟩
/-- a closure's call -/
theorem op_callv {x : Operand} {f : FuncId} {fs cs : List AV} {xs : List Operand} {ts : Array TypeId} {vs : List AV} {R : AV → Mem → Prop} (ho : o.op = .call { callee := .value x, args := xs.toArray, argTypes := ts }) (hf : al.ev x = some (.clo (.func f) fs cs)) (hx : xs.mapM al.ev = some vs) (hc : ACall P f (fs ++ vs ++ cs) M R) (q : ∀ v M', R v M' → K v M') : OpT P o al M K := by
  intro n B F Mf a w hi hs ro
  have h := hs.ev hf
  generalize he : a.eval x = u at h
  cases h with
  | clo fn h1 h2 =>
    rename_i vf vc
    have e : (execOp a.eval o).run P w = .ok (.enter f (vf ++ xs.map a.eval ++ vc).toArray) w := by
      simp only [execOp, ho, resolve, he, Deferred.ofValue, Sem.run_bind, Sem.run_pure, Result.andThen_ok, invoke, List.map_toArray, List.append_toArray]
      exact hc.ent _ _
    refine wpR_enter e ((hc.run B F Mf w _ hi ((h1.app (Rels.map_ev hs hx)).app h2)).mono ?_)
    rintro e w' ⟨u, v, M', F', rfl, h2, h3, h4, h5, h6⟩
    exact ⟨u, rfl, u, v, M', F', rfl, q v M' h2, h3, h4, h5, h6⟩
end
end Go.Proofs.Ytflkdojahfmbnaa
