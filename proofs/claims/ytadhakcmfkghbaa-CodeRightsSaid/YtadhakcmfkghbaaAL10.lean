/- A logic of trees, part 10: ranges over a function: the loop's record as a resource, a call of yield, an iterator's contract, and the statement. -/
import Derived.Test.YtadhakcmfkghbaaAL9
import Derived.RangeFuncRecord
import Derived.RangeFuncSeq
namespace Go.Proofs.Ytadhakcmfkghbaa
open Go.RowKit
theorem op_boxc {P : Program} {al : Sl} {M : Mem} {K : AV → Mem → Prop} {o : Oper} {x : Operand} {t : TypeId} {v : AV} (ho : o.op = .box t x) (hx : al.ev x = some v) (hf : v.flat = true) {cs' : List AV} (hc : v.cells = cs') (q : K (.cptr cs') M) : OpT P o al M K := by
  subst hc
  intro n B F Mf a w hi hs ro
  obtain ⟨hr, h1⟩ := (hs.ev hx).cells hf
  have hn := hi.newFix (a.eval x).cells.toList t
  rw [Array.toArray_toList] at hn
  have hE := EH.new_ext hi (a.eval x).cells.toList
  refine wpR_value (u := .pointer (some ⟨w.heap.size, 0, none⟩)) (by simp [execOp, ho, Instr.box, newVar, newRow]) ⟨_, _, M, _, rfl, q, ?_, hE, hn, alloc_below _ hi.base⟩
  exact .cptr _ 0 (EH.new_lies F w.heap.size _) (hr.mono hE) h1
theorem op_callvb {P : Program} {al : Sl} {M : Mem} {K : AV → Mem → Prop} {o : Oper} {x : Operand} {f : FuncId} {fs cs : List AV} {xs : List Operand} {ts : Array TypeId} {vs vs' : List AV} {p : Prop} (ho : o.op = .call { callee := .value x, args := xs.toArray, argTypes := ts }) (hf : al.ev x = some (.clo (.func f) fs cs)) (hx : xs.mapM al.ev = some vs) (hc : BCall P f vs' p) (hl : Les (fs ++ vs ++ cs) vs') (q : ∀ c : Bool, (c = true ↔ p) → K (.val (.bool c)) M) : OpT P o al M K :=
  op_callvp ho hf hx hc hl (by rintro v M' ⟨⟨c, h, rfl⟩, rfl⟩; rw [List.append_nil]; exact q c h)
theorem op_callvpp {P : Program} {al : Sl} {M : Mem} {K : AV → Mem → Prop} {o : Oper} {x : Operand} {f : FuncId} {fs cs : List AV} {xs : List Operand} {ts : Array TypeId} {vs vs' : List AV} {r : AV} (ho : o.op = .call { callee := .value x, args := xs.toArray, argTypes := ts }) (hf : al.ev x = some (.clo (.func f) fs cs)) (hx : xs.mapM al.ev = some vs) (hc : PCall P f vs' r) (hl : Les (fs ++ vs ++ cs) vs') (q : K r M) : OpT P o al M K :=
  op_callvp ho hf hx hc hl (by rintro v M' ⟨rfl, rfl⟩; rw [List.append_nil]; exact q)
def YCall (P : Program) (l : Nat) (vs : List AV) (M : Mem) (R : AV → Mem → Prop) : Prop :=
  ∀ (B : Nat) (F : EH) (Mf : Mem) (w : World) (us : List Value), Inv B F (M ++ Mf) w → Rels F vs us → ∀ ro : Option Nat,
    YieldAt (RF ro) 0 P l us.toArray w (fun e w' => ∃ u v M' F', e = .returned u ∧ R v M' ∧ Rel F' v u ∧ Ext F F' ∧ Inv B F' (M' ++ Mf) w' ∧ Below B w w')
section
variable {P : Program} {l : Nat} {vs : List AV} {M : Mem} {R : AV → Mem → Prop}
theorem YieldAt.weak {F : Fence} {m : Nat} {args : Array Value} {W : World} {Q Q' : Ending → World → Prop} (h : YieldAt F m P l args W Q) (hr : ∀ e w, Q e w → Q' e w) : YieldAt F m P l args W Q' := by
  obtain ⟨fn, tmps, assign, body, h1, h2⟩ := h
  exact ⟨fn, tmps, assign, body, h1, h2.mono hr⟩
theorem YCall.mono {R' : AV → Mem → Prop} (h : YCall P l vs M R) (hr : ∀ v M', R v M' → R' v M') : YCall P l vs M R' :=
  fun B F Mf w us hi hv ro => YieldAt.weak (h B F Mf w us hi hv ro) fun _ _ ⟨u, v, M', F', h1, h2, h3⟩ => ⟨u, v, M', F', h1, hr _ _ h2, h3⟩
theorem YCall.frame (h : YCall P l vs M R) (M1 : Mem) : YCall P l vs (M ++ M1) (fun v M' => ∃ M0, M' = M0 ++ M1 ∧ R v M0) :=
  fun B F Mf w us hi hv ro => YieldAt.weak (h B F (M1 ++ Mf) w us (by rw [← List.append_assoc]; exact hi) hv ro) fun _ _ ⟨u, v, M', F', h1, h2, h3, h4, h5, h6⟩ =>
    ⟨u, v, M' ++ M1, F', h1, ⟨M', rfl, h2⟩, h3, h4, by rw [List.append_assoc]; exact h5, h6⟩
theorem YCall.perm {M' : Mem} (h : YCall P l vs M R) (hp : M'.Perm M) : YCall P l vs M' R :=
  fun B F Mf w us hi hv ro => h B F Mf w us (hi.perm (hp.append_right Mf)) hv ro
theorem YCall.swap {M2 : Mem} (h : YCall P l vs M R) : YCall P l vs (M2 ++ M) (fun v M' => ∃ M0, M' = M2 ++ M0 ∧ R v M0) :=
  fun B F Mf w us hi hv ro => by
    have e : (M2 ++ M ++ Mf).Perm (M ++ (M2 ++ Mf)) := by rw [List.append_assoc]; exact List.perm_append_comm_assoc _ _ _
    refine YieldAt.weak (h B F (M2 ++ Mf) w us (hi.perm e) hv ro) fun _ _ ⟨u, v, M', F', h1, h2, h3, h4, h5, h6⟩ => ⟨u, v, M2 ++ M', F', h1, ⟨M', rfl, h2⟩, h3, h4, h5.perm ?_, h6⟩
    rw [List.append_assoc]; exact List.perm_append_comm_assoc _ _ _
theorem YCall.args {vs' : List AV} (hl : Les vs vs') (h : YCall P l vs' M R) : YCall P l vs M R :=
  fun B F Mf w us hi hv ro => h B F Mf w us hi (hl _ _ hv) ro
end
end Go.Proofs.Ytadhakcmfkghbaa
