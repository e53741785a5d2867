/- A logic of trees, part 9: calls that take memory along; a store into a row that a call made. -/
import Derived.Test.YtflkdojahfmbnaaAL8
namespace Go.Proofs.Ytflkdojahfmbnaa
open Go.RowKit
section
variable {P : Program} {n : Nat} {al : Sl} {M : Mem} {o : Oper} {K : AV → Mem → Prop}
theorem ACall.swap {f : FuncId} {vs : List AV} {M1 M2 : Mem} {R : AV → Mem → Prop} (h : ACall P f vs M1 R) : ACall P f vs (M2 ++ M1) (fun v M' => ∃ M0, M' = M2 ++ M0 ∧ R v M0) :=
  ⟨h.ent, fun B F Mf w us hi hv => by
    have e : (M2 ++ M1 ++ Mf).Perm (M1 ++ (M2 ++ Mf)) := by rw [List.append_assoc]; exact List.perm_append_comm_assoc _ _ _
    refine (h.run B F (M2 ++ Mf) w us (hi.perm e) hv).mono fun _ _ ⟨u, v, M', F', h1, h2, h3, h4, h5, h6⟩ => ⟨u, v, M2 ++ M', F', h1, ⟨M', rfl, h2⟩, h3, h4, h5.perm ?_, h6⟩
    rw [List.append_assoc]; exact List.perm_append_comm_assoc _ _ _⟩
/-- a call that takes the last part of the memory along -/
theorem op_callm {f : FuncId} {xs : List Operand} {ts : Array TypeId} {vs vs' : List AV} (M2 : Mem) {M1 : Mem} {R : AV → Mem → Prop} (ho : o.op = .call { callee := .value (.func f), args := xs.toArray, argTypes := ts }) (hx : xs.mapM al.ev = some vs) (hM : M = M2 ++ M1) (hc : ACall P f vs' M1 R) (hl : Les vs vs') (q : ∀ v M', R v M' → K v (M2 ++ M')) : OpT P o al M K := by
  subst hM
  exact op_call ho hx (ACall.swap (M2 := M2) (ACall.args hl hc)) (by rintro v M' ⟨M0, rfl, h⟩; exact q v M0 h)
theorem op_callvm {x : Operand} {f : FuncId} {fs cs : List AV} {xs : List Operand} {ts : Array TypeId} {vs vs' : List AV} (M2 : Mem) {M1 : Mem} {R : AV → Mem → Prop} (ho : o.op = .call { callee := .value x, args := xs.toArray, argTypes := ts }) (hf : al.ev x = some (.clo (.func f) fs cs)) (hx : xs.mapM al.ev = some vs) (hM : M = M2 ++ M1) (hc : ACall P f vs' M1 R) (hl : Les (fs ++ vs ++ cs) vs') (q : ∀ v M', R v M' → K v (M2 ++ M')) : OpT P o al M K := by
  subst hM
  exact op_callv ho hf hx (ACall.swap (M2 := M2) (ACall.args hl hc)) (by rintro v M' ⟨M0, rfl, h⟩; exact q v M0 h)
/-- a closure's call that needs no memory -/
theorem op_callvp {x : Operand} {f : FuncId} {fs cs : List AV} {xs : List Operand} {ts : Array TypeId} {vs vs' : List AV} {R : AV → Mem → Prop} (ho : o.op = .call { callee := .value x, args := xs.toArray, argTypes := ts }) (hf : al.ev x = some (.clo (.func f) fs cs)) (hx : xs.mapM al.ev = some vs) (hc : ACall P f vs' [] R) (hl : Les (fs ++ vs ++ cs) vs') (q : ∀ v M', R v M' → K v (M ++ M')) : OpT P o al M K :=
  op_callvm M ho hf hx (by simp) hc hl q
/-- other words for the memory -/
def MImp (M M' : Mem) : Prop := ∀ (B : Nat) (F : EH) (Mf : Mem) (w : World), Inv B F (M ++ Mf) w → Inv B F (M' ++ Mf) w
theorem MImp.refl (M : Mem) : MImp M M := fun _ _ _ _ h => h
theorem MImp.trans {M1 M2 M3 : Mem} (h : MImp M1 M2) (k : MImp M2 M3) : MImp M1 M3 := fun B F Mf w x => k B F Mf w (h B F Mf w x)
theorem MImp.perm {M1 M2 : Mem} (h : M1.Perm M2) : MImp M1 M2 := fun _ _ Mf _ x => x.perm (h.append_right Mf)
theorem MImp.le {M1 M2 : Mem} (h : MLe M1 M2) : MImp M1 M2 := fun _ _ _ _ x => x.le h
theorem MImp.swap (a b : Res) (M : Mem) : MImp (a :: b :: M) (b :: a :: M) := MImp.perm (List.Perm.swap b a M)
theorem MImp.cons (a : Res) {M1 M2 : Mem} (h : MImp M1 M2) : MImp (a :: M1) (a :: M2) := fun B F Mf w x => by
  have e1 : (a :: M1 ++ Mf).Perm (M1 ++ (a :: Mf)) := by simpa using (List.perm_middle (l₁ := M1) (l₂ := Mf) (a := a)).symm
  have e2 : (M2 ++ (a :: Mf)).Perm (a :: M2 ++ Mf) := by simp
  exact (h B F (a :: Mf) w (x.perm e1)).perm e2
/-- a variable that holds nil holds a slice of the call's own -/
theorem MImp.ownNil (b : Nat) (e : TypeId) (m : Nat) (M : Mem) : MImp (.loc b [.val (.slice none 0 0)] :: M) (.loc b [.own (.slice none 0 0) m []] :: .own e m (.slice none 0 0) :: M) := fun B F Mf w x => by
  refine MImp.swap _ _ _ B F Mf w ?_
  have h := x.ownNil e m
  refine ⟨h.base, h.fix, fun r hr => ?_, ?_⟩
  · simp only [List.cons_append, List.mem_cons] at hr
    rcases hr with rfl | rfl | hr
    · exact h.ok _ (by simp)
    · obtain ⟨h1, h2, vs, T, h3, h4, h5⟩ := h.ok (.loc b [.val (.slice none 0 0)]) (by simp)
      refine ⟨h1, h2, vs, T, h3, ?_, h5⟩
      cases h4 with
      | cons k ks =>
        cases ks
        cases k
        exact .cons (.own _ (.seq0 m none 0 (fun _ => rfl))) .nil
    · exact h.ok r (by simp [hr])
  · have := h.far
    rw [far_map] at this ⊢
    simpa [Res.blk] using this
theorem c_mem {ro : Option Nat} {ks : List Kont} {Q : Exit → Sl → Mem → Prop} {c : Code} {M' : Mem} (hm : MImp M M') (h : ACode ro P n c (after ro P n ks Q) al M') : ACode ro P n c (after ro P n ks Q) al M :=
  fun B F Mf a w hi hs => h B F Mf a w (hm B F Mf w hi) hs
theorem setL_flat {m : Nat} : ∀ (es : List (List AV)) (i : Nat) (xs : List AV), (∀ e ∈ es, e.length = m) → xs.length = m → i < es.length → setL es.flatten (i * m) xs = (es.set i xs).flatten
  | [], i, xs, _, _, h => by simp at h
  | e :: es, 0, xs, h, hx, _ => by
    have h1 := h e (by simp)
    have := setL_app xs [] (e ++ es.flatten) (by simp; omega)
    simp only [List.nil_append, List.length_nil] at this
    simp only [List.flatten_cons, List.set_cons_zero, Nat.zero_mul, this]
    rw [List.drop_append]
    simp [h1, hx]
  | e :: es, i + 1, xs, h, hx, hi => by
    have h1 := h e (by simp)
    have ih := setL_flat es i xs (fun x hx => h x (by simp [hx])) hx (by simpa using hi)
    simp only [List.flatten_cons, List.set_cons_succ, ← ih]
    have key : ∀ (xs : List AV) (pre l : List AV) (j : Nat), setL (pre ++ l) (pre.length + j) xs = pre ++ setL l j xs := by
      intro xs
      induction xs with
      | nil => intro pre l j; rfl
      | cons x xs ih2 =>
        intro pre l j
        rw [setL, setL, List.set_append_right _ _ (by omega), show pre.length + j - pre.length = j from by omega, show pre.length + j + 1 = pre.length + (j + 1) from by omega]
        exact ih2 pre _ (j + 1)
    have := key xs e es.flatten (i * m)
    rw [h1] at this
    rw [← this]
    congr 1
    rw [Nat.add_mul]; omega
theorem op_store_row {x y : Operand} {t : TypeId} {m b i k : Nat} {v : AV} {es : List (List AV)} (ho : o.op = .store t x y) (ht : (P.info? t).map (·.size) = some m) (hx : al.ev x = some (.ptr b (0 + i * m))) (hy : al.ev y = some v) (hf : v.flat = true) (hs : v.cells.length = m) (hm : M[k]? = some (.loc b es.flatten)) (hw : ∀ e ∈ es, e.length = m) (hi : i < es.length) (q : K (.val undef) (M.set k (.loc b (es.set i v.cells).flatten))) : OpT P o al M K := by
  rw [Nat.zero_add] at hx
  refine op_store ho ht hx hy hf hs hm ?_ (setL_flat es i v.cells hw hs hi) q
  rw [flat_len hw]
  have : (i + 1) * m ≤ es.length * m := Nat.mul_le_mul_right m hi
  rw [Nat.add_mul] at this
  omega
/-- boxes and new variables, their cells written out -/
theorem op_boxe {x : Operand} {t : TypeId} {v : AV} {cs' : List AV} (ho : o.op = .box t x) (hx : al.ev x = some v) (hf : v.flat = true) (hc : v.cells = cs') (q : ∀ b, K (.ptr b 0) (.loc b cs' :: M)) : OpT P o al M K := by
  subst hc; exact op_box ho hx hf q
theorem op_alloce {t : TypeId} {z : Value} {cs' : List AV} (ho : o.op = .alloc t) (hz : tyZero P t = some z) (hf : (AV.val z).flat = true) (hc : (AV.val z).cells = cs') (q : ∀ b, K (.ptr b 0) (.loc b cs' :: M)) : OpT P o al M K := by
  subst hc; exact op_alloc ho hz hf q
/-- the slots behind a freezing -/
def Frz (b n m : Nat) (es : List (List AV)) (al al' : Sl) : Prop := ∀ t v', al'.lookup t = some v' → ∃ v, al.lookup t = some v ∧ (Le v v' ∨ ∃ cap, v = .arr b 0 n cap ∧ v' = .seq m es)
theorem Frz.nil {b n m : Nat} {es : List (List AV)} {al : Sl} : Frz b n m es al [] := fun t v' e => by simp at e
theorem Frz.cons {b n m : Nat} {es : List (List AV)} {al al' : Sl} {t : Nat} {v v' : AV} (hv : al.lookup t = some v) (h : Le v v') (hs : Frz b n m es al al') : Frz b n m es al ((t, v') :: al') := fun s u e => by
  by_cases q : s = t
  · subst q
    simp at e; subst e
    exact ⟨v, hv, .inl h⟩
  · have : (s == t) = false := by simpa using q
    rw [List.lookup, this] at e
    exact hs s u e
theorem Frz.arr {b n m cap : Nat} {es : List (List AV)} {al al' : Sl} {t : Nat} (hv : al.lookup t = some (.arr b 0 n cap)) (hs : Frz b n m es al al') : Frz b n m es al ((t, .seq m es) :: al') := fun s u e => by
  by_cases q : s = t
  · subst q
    simp at e; subst e
    exact ⟨_, hv, .inr ⟨cap, rfl, rfl⟩⟩
  · have : (s == t) = false := by simpa using q
    rw [List.lookup, this] at e
    exact hs s u e
theorem c_freeze {ro : Option Nat} {ks : List Kont} {Q : Exit → Sl → Mem → Prop} {c : Code} {b k m i : Nat} {cs : List AV} {es : List (List AV)} {al' : Sl} (hm : M[i]? = some (.loc b cs)) (hc : cs = es.flatten) (hw : ∀ e ∈ es, e.length = m) (hn : es.length = k) (hmax : k ≤ 9223372036854775807) (hs : Frz b k m es al al') (h : ACode ro P n c (after ro P n ks Q) al' (M.eraseIdx i)) : ACode ro P n c (after ro P n ks Q) al M :=
  ACode.freeze hm hc hw hn (by unfold maxLen; exact hmax) hs h
end
end Go.Proofs.Ytflkdojahfmbnaa
