/- A logic of trees, part 9: calls that take memory along; a store into a row that a call made. -/
import Derived.Test.YtadhakcmfkghbaaAL8
namespace Go.Proofs.Ytadhakcmfkghbaa
open Go.RowKit
section
variable {P : Program} {n : Nat} {al : Sl} {M : Mem} {o : Oper} {K : AV → Mem → Prop}
theorem ACall.swap {f : FuncId} {vs : List AV} {M1 M2 : Mem} {R : AV → Mem → Prop} (h : ACall P f vs M1 R) : ACall P f vs (M2 ++ M1) (fun v M' => ∃ M0, M' = M2 ++ M0 ∧ R v M0) :=
  ⟨h.ent, fun B F Mf w us hi hv => by
    have e : (M2 ++ M1 ++ Mf).Perm (M1 ++ (M2 ++ Mf)) := by rw [List.append_assoc]; exact List.perm_append_comm_assoc _ _ _
    refine (h.run B F (M2 ++ Mf) w us (hi.perm e) hv).mono fun _ _ ⟨u, v, M', F', h1, h2, h3, h4, h5, h6⟩ => ⟨u, v, M2 ++ M', F', h1, ⟨M', rfl, h2⟩, h3, h4, h5.perm ?_, h6⟩
    rw [List.append_assoc]; exact List.perm_append_comm_assoc _ _ _⟩
theorem op_callm {f : FuncId} {xs : List Operand} {ts : Array TypeId} {vs vs' : List AV} (M2 : Mem) {M1 : Mem} {R : AV → Mem → Prop} (ho : o.op = .call { callee := .value (.func f), args := xs.toArray, argTypes := ts }) (hx : xs.mapM al.ev = some vs) (hM : M = M2 ++ M1) (hc : ACall P f vs' M1 R) (hl : Les vs vs') (q : ∀ v M', R v M' → K v (M2 ++ M')) : OpT P o al M K := by
  subst hM
  exact op_call ho hx (ACall.swap (M2 := M2) (ACall.args hl hc)) (by rintro v M' ⟨M0, rfl, h⟩; exact q v M0 h)
theorem op_callvm {x : Operand} {f : FuncId} {fs cs : List AV} {xs : List Operand} {ts : Array TypeId} {vs vs' : List AV} (M2 : Mem) {M1 : Mem} {R : AV → Mem → Prop} (ho : o.op = .call { callee := .value x, args := xs.toArray, argTypes := ts }) (hf : al.ev x = some (.clo (.func f) fs cs)) (hx : xs.mapM al.ev = some vs) (hM : M = M2 ++ M1) (hc : ACall P f vs' M1 R) (hl : Les (fs ++ vs ++ cs) vs') (q : ∀ v M', R v M' → K v (M2 ++ M')) : OpT P o al M K := by
  subst hM
  exact op_callv ho hf hx (ACall.swap (M2 := M2) (ACall.args hl hc)) (by rintro v M' ⟨M0, rfl, h⟩; exact q v M0 h)
theorem op_callvp {x : Operand} {f : FuncId} {fs cs : List AV} {xs : List Operand} {ts : Array TypeId} {vs vs' : List AV} {R : AV → Mem → Prop} (ho : o.op = .call { callee := .value x, args := xs.toArray, argTypes := ts }) (hf : al.ev x = some (.clo (.func f) fs cs)) (hx : xs.mapM al.ev = some vs) (hc : ACall P f vs' [] R) (hl : Les (fs ++ vs ++ cs) vs') (q : ∀ v M', R v M' → K v (M ++ M')) : OpT P o al M K :=
  op_callvm M ho hf hx (by simp) hc hl q
def MImp (M M' : Mem) : Prop := ∀ (B : Nat) (F : EH) (Mf : Mem) (w : World), Inv B F (M ++ Mf) w → Inv B F (M' ++ Mf) w
theorem MImp.refl (M : Mem) : MImp M M := fun _ _ _ _ h => h
theorem MImp.trans {M1 M2 M3 : Mem} (h : MImp M1 M2) (k : MImp M2 M3) : MImp M1 M3 := fun B F Mf w x => k B F Mf w (h B F Mf w x)
theorem MImp.perm {M1 M2 : Mem} (h : M1.Perm M2) : MImp M1 M2 := fun _ _ Mf _ x => x.perm (h.append_right Mf)
theorem MImp.le {M1 M2 : Mem} (h : MLe M1 M2) : MImp M1 M2 := fun _ _ _ _ x => x.le h
theorem MImp.swap (a b : Res) (M : Mem) : MImp (a :: b :: M) (b :: a :: M) := MImp.perm (List.Perm.swap b a M)
theorem MImp.cons (a : Res) {M1 M2 : Mem} (h : MImp M1 M2) : MImp (a :: M1) (a :: M2) := fun B F Mf w x => by
  have e1 : (a :: M1 ++ Mf).Perm (M1 ++ (a :: Mf)) := by simpa using (List.perm_middle (l₁ := M1) (l₂ := Mf) (a := a)).symm
  have e2 : (M2 ++ (a :: Mf)).Perm (a :: M2 ++ Mf) := by simp
  exact (h B F (a :: Mf) w (x.perm e1)).perm e2
theorem MImp.ownNil (b : Nat) (e : TypeId) (m : Nat) (M : Mem) : MImp (.loc b [.val (.slice none 0 0)] :: M) (.loc b [.own (.slice none 0 0) m []] :: .own e m (.slice none 0 0) :: M) := fun B F Mf w x => by
  refine MImp.swap _ _ _ B F Mf w ?_
  have h := x.ownNil e m
  refine ⟨h.base, h.fix, fun r hr => ?_, ?_⟩
  · simp only [List.cons_append, List.mem_cons] at hr
    rcases hr with rfl | rfl | hr
    · exact h.ok _ (by simp)
    · obtain ⟨h1, h2, vs, T, h3, h4, h5⟩ := h.ok (.loc b [.val (.slice none 0 0)]) (by simp)
      refine ⟨h1, h2, vs, T, h3, ?_, h5⟩
      cases h4 with
      | cons k ks =>
        cases ks
        cases k
        exact .cons (.own _ (.seq0 m none 0 (fun _ => rfl))) .nil
    · exact h.ok r (by simp [hr])
  · have := h.far
    rw [far_map] at this ⊢
    simpa [Res.blk] using this
theorem c_mem {ro : Option Nat} {ks : List Kont} {Q : Exit → Sl → Mem → Prop} {c : Code} {M' : Mem} (hm : MImp M M') (h : ACode ro P n c (after ro P n ks Q) al M') : ACode ro P n c (after ro P n ks Q) al M :=
  fun B F Mf a w hi hs => h B F Mf a w (hm B F Mf w hi) hs
theorem op_boxe {x : Operand} {t : TypeId} {v : AV} {cs' : List AV} (ho : o.op = .box t x) (hx : al.ev x = some v) (hf : v.flat = true) (hc : v.cells = cs') (q : ∀ b, K (.ptr b 0) (.loc b cs' :: M)) : OpT P o al M K := by
  subst hc; exact op_box ho hx hf q
theorem op_alloce {t : TypeId} {z : Value} {cs' : List AV} (ho : o.op = .alloc t) (hz : tyZero P t = some z) (hf : (AV.val z).flat = true) (hc : (AV.val z).cells = cs') (q : ∀ b, K (.ptr b 0) (.loc b cs' :: M)) : OpT P o al M K := by
  subst hc; exact op_alloc ho hz hf q
def Frz (b n m : Nat) (es : List (List AV)) (al al' : Sl) : Prop := ∀ t v', al'.lookup t = some v' → ∃ v, al.lookup t = some v ∧ (Le v v' ∨ ∃ cap, v = .arr b 0 n cap ∧ v' = .seq m es)
theorem Frz.nil {b n m : Nat} {es : List (List AV)} {al : Sl} : Frz b n m es al [] := fun t v' e => by simp at e
theorem Frz.cons {b n m : Nat} {es : List (List AV)} {al al' : Sl} {t : Nat} {v v' : AV} (hv : al.lookup t = some v) (h : Le v v') (hs : Frz b n m es al al') : Frz b n m es al ((t, v') :: al') := fun s u e => by
  by_cases q : s = t
  · subst q
    simp at e; subst e
    exact ⟨v, hv, .inl h⟩
  · have : (s == t) = false := by simpa using q
    rw [List.lookup, this] at e
    exact hs s u e
theorem Frz.arr {b n m cap : Nat} {es : List (List AV)} {al al' : Sl} {t : Nat} (hv : al.lookup t = some (.arr b 0 n cap)) (hs : Frz b n m es al al') : Frz b n m es al ((t, .seq m es) :: al') := fun s u e => by
  by_cases q : s = t
  · subst q
    simp at e; subst e
    exact ⟨_, hv, .inr ⟨cap, rfl, rfl⟩⟩
  · have : (s == t) = false := by simpa using q
    rw [List.lookup, this] at e
    exact hs s u e
end
end Go.Proofs.Ytadhakcmfkghbaa
