/- The logic of trees, part 19: calls that turn one piece of the memory; a nil as a slice of the call's own. -/
import Derived.Test.YtflkdojahfmbnaaAL18
namespace Go.Proofs.Ytflkdojahfmbnaa
open Go.RowKit
/-- a call that answers one tree, and turns one piece of the memory -/
abbrev MCall (P : Program) (f : FuncId) (vs : List AV) (r : Res) (v : AV) (r' : Res) : Prop := ACall P f vs [r] (fun u M' => u = v ∧ M' = [r'])
/-- a call that answers true and turns a piece, or false and leaves it -/
abbrev MayCall (P : Program) (f : FuncId) (vs : List AV) (r : Res) (p : Prop) (r' : Res) : Prop := ACall P f vs [r] (fun u M' => (p ∧ u = .val (.bool true) ∧ M' = [r']) ∨ (¬ p ∧ u = .val (.bool false) ∧ M' = [r]))
section
variable {P : Program} {al : Sl} {M : Mem} {K : AV → Mem → Prop} {o : Oper}
theorem set_perm {M : Mem} {i : Nat} {r r' : Res} (h : M[i]? = some r) : (r' :: M.eraseIdx i).Perm (M.set i r') := by
  have hi : i < M.length := get_lt h
  have := perm_at (M := M.set i r') (i := i) (r := r') (by simp [hi])
  rw [List.eraseIdx_set_eq] at this
  exact this.symm
theorem pick_one {M : Mem} {i : Nat} {r : Res} (h : M[i]? = some r) : pick [i] M = some ([r], M.eraseIdx i) := by
  simp [pick, h]
theorem OpT.permd {K0 : AV → Mem → Prop} (h : OpT P o al M K0) (q : ∀ v M', K0 v M' → ∃ M2, M'.Perm M2 ∧ K v M2) : OpT P o al M K := by
  intro n B F Mf a w hi hs ro
  refine Oper.wpIn_mono ?_ (h n B F Mf a w hi hs ro)
  rintro a' w' ⟨u, v, M', F', h1, h2, h3, h4, h5, h6⟩
  obtain ⟨M2, hp, hk⟩ := q v M' h2
  exact ⟨u, v, M2, F', h1, hk, h3, h4, h5.perm (hp.append_right Mf), h6⟩
theorem op_mcall {f : FuncId} {xs : List Operand} {ts : Array TypeId} {vs vs' : List AV} (i : Nat) {r r' : Res} {v : AV} (ho : o.op = .call { callee := .value (.func f), args := xs.toArray, argTypes := ts }) (hx : xs.mapM al.ev = some vs) (hm : M[i]? = some r) (hc : MCall P f vs' r v r') (hl : Les vs vs') (q : K v (M.set i r')) : OpT P o al M K := by
  refine OpT.permd (op_callat (K := fun u M' => u = v ∧ M' = r' :: M.eraseIdx i) [i] ho hx (pick_one hm) hc hl ?_) ?_
  · rintro u M' ⟨rfl, rfl⟩; exact ⟨rfl, rfl⟩
  · rintro u M' ⟨rfl, rfl⟩; exact ⟨_, set_perm hm, q⟩
theorem op_mayc {f : FuncId} {xs : List Operand} {ts : Array TypeId} {vs vs' : List AV} (i : Nat) {r r' : Res} {p : Prop} (ho : o.op = .call { callee := .value (.func f), args := xs.toArray, argTypes := ts }) (hx : xs.mapM al.ev = some vs) (hm : M[i]? = some r) (hc : MayCall P f vs' r p r') (hl : Les vs vs') (qt : p → K (.val (.bool true)) (M.set i r')) (qf : ¬ p → K (.val (.bool false)) M) : OpT P o al M K := by
  refine OpT.permd (op_callat (K := fun u M' => (p ∧ u = .val (.bool true) ∧ M' = r' :: M.eraseIdx i) ∨ (¬ p ∧ u = .val (.bool false) ∧ M' = r :: M.eraseIdx i)) [i] ho hx (pick_one hm) hc hl ?_) ?_
  · rintro u M' (⟨h, rfl, rfl⟩ | ⟨h, rfl, rfl⟩)
    · exact .inl ⟨h, rfl, rfl⟩
    · exact .inr ⟨h, rfl, rfl⟩
  · rintro u M' (⟨h, rfl, rfl⟩ | ⟨h, rfl, rfl⟩)
    · exact ⟨_, set_perm hm, qt h⟩
    · exact ⟨_, (perm_at hm).symm, qf h⟩
/-- a nil is a slice of the call's own -/
theorem Le.nilOwn (m : Nat) : Le (.val (.slice none 0 0)) (.own (.slice none 0 0) m []) := fun F u h => by
  cases h; exact .own _ (.seq0 m none 0 (fun _ => rfl))
theorem c_ownNew {ro : Option Nat} {n : Nat} {ks : List Kont} {Q : Exit → Sl → Mem → Prop} {c : Code} (e : TypeId) (m : Nat) (h : ACode ro P n c (after ro P n ks Q) al (M ++ [.own e m (.slice none 0 0)])) : ACode ro P n c (after ro P n ks Q) al M := fun B F Mf a w hi hs => by
  refine h B F Mf a w ?_ hs
  refine (hi.ownNil e m).perm ?_
  have : (Res.own e m (.slice none 0 0) :: (M ++ Mf)).Perm (M ++ Res.own e m (.slice none 0 0) :: Mf) := List.perm_middle.symm
  simpa using this
/-- a field of a struct that is a value -/
def tyField (P : Program) (t : TypeId) (f : Nat) : Option (TypeId × Nat) :=
  match P.underlying t with
  | some (.struct fs) => match fs[f]? with
    | some g => some (g.type, g.offset)
    | none => none
  | _ => none
theorem op_field1 {x : Operand} {t ft : TypeId} {f fo : Nat} {cs : List AV} {v : AV} (ho : o.op = .field t x f) (ht : tyField P t f = some (ft, fo)) (ha : tyAgg P ft = some none) (hx : al.ev x = some (.agg cs)) (hc : cs[fo]? = some v) (q : K v M) : OpT P o al M K :=
  OpT.plain fun n B F Mf ac w hi hs => by
    have h := hs.ev hx
    generalize hu : ac.eval x = u at h
    cases h with
    | agg h h1 =>
      rename_i vs
      obtain ⟨y, h2, h3⟩ := h.get hc
      refine ⟨y, _, ?_, q, h3⟩
      unfold tyField at ht
      split at ht <;> first | (simp at ht; done) | skip
      rename_i fs hfs
      split at ht <;> first | (simp at ht; done) | skip
      rename_i g hg
      simp only [Option.some.injEq, Prod.mk.injEq] at ht
      obtain ⟨rfl, rfl⟩ := ht
      obtain ⟨a1, a2⟩ := tyAgg_none ha w
      simp [execOp, ho, hu, Instr.field, underlying, hfs, hg, part, asAgg, a1, h2]
end
end Go.Proofs.Ytflkdojahfmbnaa
