/- Parts of a proof: A logic of trees, part 10: ranges over a function: the loop's record as a resource, a call of yield, an iterator's contract, and the statement.; A logic of trees, part 11: rows: slices whose cells may turn; pure calls that look at a row; boxes that become eternal.; The logic of trees, part 12: loops and joins that keep the slots that they do not turn.; The logic of trees, part 13: a slice of a slice, an element of an array.; The logic of trees, part 16: pointers into rows: index, load, store; appending to a row, its block known; a part of a row as a source; arrays within a variable.; The logic of trees, part 17: calls that take pieces of the memory along, by their places. -/
import Derived.Test.YtknodnfbaofngaaGreatKLNBack1
import Derived.RangeFuncRecord
import Derived.RangeFuncSeq
set_option maxRecDepth 100000
set_option maxHeartbeats 4000000
namespace Go.Proofs.YtknodnfbaofngaaGreat
open Go.RowKit
theorem Ys {P : Program} {al : Sl} {M : Mem} {K : AV → Mem → Prop} {o : Oper} {x : Operand} {t : TypeId} {v : AV} (ho : o.op = .box t x) (hx : al.ev x = some v) (hf : v.flat = true) {cs' : List AV} (hc : v.cells = cs') (q : K (.cptr cs') M) : OpT P o al M K := by
 subst hc
 intro n B F Mf a w hi hs ro
 obtain ⟨hr, h1⟩ := (hs.ev hx).cells hf
 have hn := hi.newFix (a.eval x).cells.toList t
 rw [Array.toArray_toList] at hn
 have hE := EH.new_ext hi (a.eval x).cells.toList
 refine wpR_value (u := .pointer (some ⟨w.heap.size, 0, none⟩)) (by simp [execOp, ho, Instr.box, newVar, newRow]) ⟨_, _, M, _, rfl, q, ?_, hE, hn, alloc_below _ hi.base⟩
 exact .cptr _ 0 (EH.new_lies F w.heap.size _) (hr.mono hE) h1
theorem op_callvb {P : Program} {al : Sl} {M : Mem} {K : AV → Mem → Prop} {o : Oper} {x : Operand} {f : FuncId} {fs cs : List AV} {xs : List Operand} {ts : Array TypeId} {vs vs' : List AV} {p : Prop} (ho : o.op = .call { callee := .value x, args := xs.toArray, argTypes := ts }) (hf : al.ev x = some (.clo (.func f) fs cs)) (hx : xs.mapM al.ev = some vs) (hc : BCall P f vs' p) (hl : Les (fs ++ vs ++ cs) vs') (q : ∀ c : Bool, (c = true ↔ p) → K (.val (.bool c)) M) : OpT P o al M K :=
 op_callvp ho hf hx hc hl (by rintro v M' ⟨⟨c, h, rfl⟩, rfl⟩; rw [List.append_nil]; exact q c h)
theorem Inv.newObj {B : Nat} {F : EH} {M : Mem} {w : World} (hi : Inv B F M w) (o : Obj) (ho : o.isCells = false) (p : EH → Obj → Prop) (hp : ∀ F', Ext F F' → p F' o) : Inv B F (.objp w.heap.size p :: M) (w.alloc o) := by
 refine ⟨by have := hi.base; simp; omega, fix_alloc hi o, fun r hr => ?_, ?_⟩
 ·rcases List.mem_cons.1 hr with rfl | hr
  ·exact ⟨hi.base, fun i => hi.dom (Nat.le_refl _), o, World.alloc_heap_new w o, ho, hp⟩
  ·refine (hi.ok r hr).stay (Ext.refl F) (fun b hb => ⟨?_, fun _ => rfl⟩)
   have := (hi.ok r hr).lt hb
   rw [alloc_get, if_neg (by omega)]
 ·rw [List.pairwise_cons]
  refine ⟨fun r hr => ?_, hi.far⟩
  right
  intro e
  have := (hi.ok r hr).lt e.symm
  omega
def LoopIs (n : Nat) (al : Sl) (ps : Array Tmp) (assign body : Code) (busy : Bool) (pend : Option Code) (F : EH) (o : Obj) : Prop :=
 ∃ r : Loop, o = .loop r ∧ (if busy then r.state = .busy else r.state = (if pend.isNone then .ready else .done) ∧ r.pending = pend) ∧ r.params = ps ∧ r.assign = assign ∧ r.body = body ∧ Slots n F al r.tmps
abbrev lrec (l n : Nat) (al : Sl) (ps : Array Tmp) (assign body : Code) (busy : Bool) (pend : Option Code) : Res := .objp l (LoopIs n al ps assign body busy pend)
abbrev yv (l : Nat) : AV := .val (.func (.yield l) #[] #[])
def YCall (P : Program) (l : Nat) (vs : List AV) (M : Mem) (R : AV → Mem → Prop) : Prop :=
 ∀ (B : Nat) (F : EH) (Mf : Mem) (w : World) (us : List Value), Inv B F (M ++ Mf) w → Rels F vs us → ∀ ro : Option Nat,
  YieldAt (RF ro) 0 P l us.toArray w (fun e w' => ∃ u v M' F', e = .returned u ∧ R v M' ∧ Rel F' v u ∧ Ext F F' ∧ Inv B F' (M' ++ Mf) w' ∧ Below B w w')
section
variable {P : Program} {l : Nat} {vs : List AV} {M : Mem} {R : AV → Mem → Prop}
theorem YieldAt.weak {F : Fence} {m : Nat} {args : Array Value} {W : World} {Q Q' : Ending → World → Prop} (h : YieldAt F m P l args W Q) (hr : ∀ e w, Q e w → Q' e w) : YieldAt F m P l args W Q' := by
 obtain ⟨fn, tmps, assign, body, h1, h2⟩ := h
 exact ⟨fn, tmps, assign, body, h1, h2.mono hr⟩
theorem YCall.mono {R' : AV → Mem → Prop} (h : YCall P l vs M R) (hr : ∀ v M', R v M' → R' v M') : YCall P l vs M R' :=
 fun B F Mf w us hi hv ro => YieldAt.weak (h B F Mf w us hi hv ro) fun _ _ ⟨u, v, M', F', h1, h2, h3⟩ => ⟨u, v, M', F', h1, hr _ _ h2, h3⟩
theorem YCall.frame (h : YCall P l vs M R) (M1 : Mem) : YCall P l vs (M ++ M1) (fun v M' => ∃ M0, M' = M0 ++ M1 ∧ R v M0) :=
 fun B F Mf w us hi hv ro => YieldAt.weak (h B F (M1 ++ Mf) w us (by rw [← List.append_assoc]; exact hi) hv ro) fun _ _ ⟨u, v, M', F', h1, h2, h3, h4, h5, h6⟩ =>
  ⟨u, v, M' ++ M1, F', h1, ⟨M', rfl, h2⟩, h3, h4, by rw [List.append_assoc]; exact h5, h6⟩
theorem YCall.perm {M' : Mem} (h : YCall P l vs M R) (hp : M'.Perm M) : YCall P l vs M' R :=
 fun B F Mf w us hi hv ro => h B F Mf w us (hi.perm (hp.append_right Mf)) hv ro
theorem YCall.swap {M2 : Mem} (h : YCall P l vs M R) : YCall P l vs (M2 ++ M) (fun v M' => ∃ M0, M' = M2 ++ M0 ∧ R v M0) :=
 fun B F Mf w us hi hv ro => by
  have e : (M2 ++ M ++ Mf).Perm (M ++ (M2 ++ Mf)) := by rw [List.append_assoc]; exact List.perm_append_comm_assoc _ _ _
  refine YieldAt.weak (h B F (M2 ++ Mf) w us (hi.perm e) hv ro) fun _ _ ⟨u, v, M', F', h1, h2, h3, h4, h5, h6⟩ => ⟨u, v, M2 ++ M', F', h1, ⟨M', rfl, h2⟩, h3, h4, h5.perm ?_, h6⟩
  rw [List.append_assoc]; exact List.perm_append_comm_assoc _ _ _
theorem YCall.args {vs' : List AV} (hl : Les vs vs') (h : YCall P l vs' M R) : YCall P l vs M R :=
 fun B F Mf w us hi hv ro => h B F Mf w us hi (hl _ _ hv) ro
theorem op_yield {al : Sl} {K : AV → Mem → Prop} {o : Oper} {x : Operand} {xs : List Operand} {ts : Array TypeId} {vs' : List AV} {MM : Mem} (M2 : Mem) (ho : o.op = .call { callee := .value x, args := xs.toArray, argTypes := ts }) (hf : al.ev x = some (yv l)) (hx : xs.mapM al.ev = some vs') (hM : MM = M2 ++ M) (hc : YCall P l vs M R) (hl : Les vs' vs) (q : ∀ v M', R v M' → K v (M2 ++ M')) : OpT P o al MM K := by
 subst hM
 intro n B F Mf a w hi hs ro
 have he := Xy hs hf
 obtain ⟨fn, tmps, assign, body, h1, h2⟩ := (YCall.swap (M2 := M2) (YCall.args hl hc)) B F Mf w _ hi (Rels.map_ev hs hx) ro
 have e : (execOp a.eval o).run P w = .ok (.round l fn tmps assign body) w := by
  simp only [execOp, ho, resolve, he, Deferred.ofValue, Sem.run_bind, Sem.run_pure, Result.andThen_ok, invoke, List.map_toArray, List.append_toArray, List.nil_append]
  exact h1
 refine ⟨fun _ _ => trivial, ?_⟩
 rw [Oper.semAt_eq _ _ _ (not_defer e (by simp)), e]
 refine ⟨fun q => by simp [Fence.wide] at q, h2.mono ?_⟩
 rintro e w' ⟨u, v, M', F', rfl, ⟨M0, rfl, h2⟩, h3, h4, h5, h6⟩
 exact ⟨u, v, M2 ++ M0, F', rfl, q v M0 h2, h3, h4, h5, h6⟩
end
def putL : Sl → List Nat → List AV → Sl
 | al, p :: ps, v :: vs => putL ((p, v) :: al) ps vs
 | al, _, _ => al
theorem putL_slots {n : Nat} {F : EH} : ∀ {ps : List Nat} {vs : List AV} {us : List Value} {al : Sl} {tmps : Array Value}, Slots n F al tmps → (ps.all fun p => Nat.blt p n) = true → Rels F vs us → ps.length = vs.length →
    Slots n F (putL al ps vs) ((ps.zip us).foldl (fun t (p : Nat × Value) => t.setIfInBounds p.1 p.2) tmps)
 | [], vs, us, al, tmps, h, _, hr, hl => by cases vs <;> simp_all [putL]
 | p :: ps, [], us, al, tmps, h, _, hr, hl => by simp at hl
 | p :: ps, v :: vs, us, al, tmps, h, hp, hr, hl => by
  cases hr with
  | cons h1 hs =>
   simp only [List.all_cons, Bool.and_eq_true] at hp
   have hpn : p < n := by simpa [Nat.blt_eq] using hp.1
   have := Slots.put (a := { tmps := tmps, defers := [] }) (d := some p) h (by simpa using hpn) h1
   simp only [putL, List.zip_cons_cons, List.foldl_cons]
   exact putL_slots this hp.2 hs (by simpa using hl)
def RoundQ (Rn : Mem → Prop) (Rx : Code → Mem → Prop) : Exit → Sl → Mem → Prop
 | .normal, _, M => Rn M
 | .ret, _, M => Rx .ret M
 | .exit id, _, M => Rx (.exit id) M
 | .goto t, _, M => Rx (.goto t) M
 | _, _, _ => False
theorem Inv.mid {B : Nat} {F : EH} {A C : Mem} {r : Res} {w : World} : Inv B F (A ++ (r :: C)) w ↔ Inv B F (r :: (A ++ C)) w :=
 ⟨fun h => h.perm (List.perm_middle (a := r) (l₁ := A) (l₂ := C)), fun h => h.perm (List.perm_middle (a := r) (l₁ := A) (l₂ := C)).symm⟩
theorem c_asg {ro : Option Nat} {P : Program} {n : Nat} {c : Code} {K : Sl → Mem → Prop} {al : Sl} {M : Mem} (h : ACode ro P n c (after ro P n [.lp K] (fun _ _ _ => False)) al M) : ACode ro P n c (Then K (fun _ _ _ => False)) al M := h
theorem op_max {P : Program} {al : Sl} {M : Mem} {K : AV → Mem → Prop} {o : Oper} {x y : Operand} {ts : Array TypeId} {k : IntKind} {a b : Int} (ho : o.op = .call { callee := .builtin .max, args := #[x, y], argTypes := ts }) (hx : al.ev x = some (.val (.int k a))) (hy : al.ev y = some (.val (.int k b))) (q : K (.val (.int k (max a b))) M) : OpT P o al M K :=
 OpT.plain fun n B F Mf ac w hi hs => ⟨_, _, by
  simp [execOp, ho, resolve, invoke, builtin, Builtin.max_, Xy hs hx, Xy hs hy, Builtin.max2]
  split <;> omega, q, .val _⟩
theorem op_min {P : Program} {al : Sl} {M : Mem} {K : AV → Mem → Prop} {o : Oper} {x y : Operand} {ts : Array TypeId} {k : IntKind} {a b : Int} (ho : o.op = .call { callee := .builtin .min, args := #[x, y], argTypes := ts }) (hx : al.ev x = some (.val (.int k a))) (hy : al.ev y = some (.val (.int k b))) (q : K (.val (.int k (min a b))) M) : OpT P o al M K :=
 OpT.plain fun n B F Mf ac w hi hs => ⟨_, _, by
  simp [execOp, ho, resolve, invoke, builtin, Builtin.min_, Xy hs hx, Xy hs hy, Builtin.min2]
  split <;> omega, q, .val _⟩
theorem x_out {ro : Option Nat} {P : Program} {n : Nat} {Q : Exit → Sl → Mem → Prop} {id : Nat} {al : Sl} {M : Mem} (h : Q (.exit id) al M) : AX ro P n [] Q id al M := h
theorem c_lenp {ro : Option Nat} {P : Program} {n : Nat} {ks : List Kont} {Q : Exit → Sl → Mem → Prop} {al : Sl} {M : Mem} {c : Code} {t j m : Nat} {cs : List AV} {v : AV} {es : List (List AV)} (ht : al.lookup t = some (.cptr cs)) (hj : cs[j]? = some v) (hq : IsSeq v m es) (h : es.length ≤ 9223372036854775807 → ACode ro P n c (after ro P n ks Q) al M) : ACode ro P n c (after ro P n ks Q) al M := by
 intro B F Mf a w hi hs
 have h2 := (hs.2 t _ ht).2
 generalize a.tmps.getD t undef = y at h2
 cases h2 with
 | cptr b off hl hr _ =>
  obtain ⟨u, _, hu⟩ := hr.get hj
  exact h (hq.rel hu).seq_max B F Mf a w hi hs
theorem yres {v : AV} {A B : Prop} (h : (v = .val (.bool true) ∧ A) ∨ (v = .val (.bool false) ∧ B)) : ∃ c : Bool, v = .val (.bool c) ∧ (c = true → A) ∧ (c = false → B) := by
 rcases h with ⟨rfl, h⟩ | ⟨rfl, h⟩
 ·exact ⟨true, rfl, fun _ => h, fun e => by simp at e⟩
 ·exact ⟨false, rfl, fun e => by simp at e, fun _ => h⟩
def Iter (P : Program) (f : FuncId) (fs cs : List AV) (xs : List (List AV)) : Prop :=
 ∀ (l : Nat) (J Jx : Nat → Mem → Prop), (∀ k x M, xs[k]? = some x → J k M → YCall P l x M (fun v M' => (v = .val (.bool true) ∧ J (k + 1) M') ∨ (v = .val (.bool false) ∧ Jx (k + 1) M'))) →
  ∀ M, J 0 M → ACall P f (fs ++ [yv l] ++ cs) M (fun _ M' => J xs.length M' ∨ ∃ k, k ≤ xs.length ∧ Jx k M')
theorem MImp.rowNil (e : TypeId) (m : Nat) (M : Mem) : MImp M (.row e m (.slice none 0 0) [] :: M) := fun B F Mf w x => by
 refine ⟨x.base, x.fix, fun r hr => ?_, ?_⟩
 ·rcases List.mem_cons.1 hr with rfl | hr
  ·exact ⟨[], ⟨by simp, .inl ⟨rfl, rfl⟩⟩, by simp [Value.ownBlock], .nil, by intro v hv; simp at hv, by simp⟩
  ·exact x.ok r hr
 ·rw [List.cons_append, List.pairwise_cons]
  exact ⟨fun r _ => .inl rfl, x.far⟩
section
variable {P : Program} {al : Sl} {M : Mem} {K : AV → Mem → Prop} {o : Oper}
theorem Vf {α : Type} {l : List α} {i : Nat} {x : α} (h : l[i]? = some x) : i < l.length := (List.getElem?_eq_some_iff.1 h).1
theorem row_core {B : Nat} {F : EH} {R : Mem} {w : World} {t e ty : TypeId} {z : Value} {m bytes : Nat} {u src : Value} {es es' : List (List AV)} (E : ElT P t e z m bytes) (hi : Inv B F (.row e m u es :: R) w) (hv : Rel F (.seq m es') src) (hn : es.length + es'.length ≤ 100000000000) :
    ∃ u' w', (Builtin.append_ #[t, t] ty #[u, src]).run P w = .ok u' w' ∧ Inv B F (.row e m u' (es ++ es') :: R) w' ∧ Below B w w' := by
 obtain ⟨xs, hown, hslack, hrx, hox, hwx⟩ := hi.ok _ (List.mem_cons_self)
 have src2 : (src = .slice none 0 0 ∧ es' = []) ∨ ∃ a c news, src = .slice (some a) es'.length c ∧ news.length = es'.length * m ∧ (∀ j u, news[j]? = some u → w.cell? (a.add j) = some u) ∧ Ones news ∧ Rels F es'.flatten news ∧ ∀ x ∈ es', x.length = m := by
  cases hv with
  | seq0 _ ao cap h =>
   cases ao with
   | none => exact .inl ⟨by rw [h rfl], rfl⟩
   | some a => exact .inr ⟨a, cap, [], rfl, by simp, by simp, by intro v hv; simp at hv, .nil, by simp⟩
  | seq b off cap hm hn hl h h1 hcp =>
   rename_i vs
   refine .inr ⟨_, cap, vs, rfl, by rw [← h.len, flat_len hm], fun j x hx => ?_, h1, h, hm⟩
   rw [addr_add0]
   exact hi.fix _ _ _ (hl j x hx)
 rcases src2 with ⟨rfl, rfl⟩ | ⟨a, c, news, rfl, hl, hc, h1, hrn, hwn⟩
 ·obtain ⟨i, hinf, _⟩ := info_parts E.info
  have hrun := run_append_owned_none (P := P) (w := w) B t ty e i m E.und hinf u es.length xs hown
  exact ⟨u, w, hrun, by rw [List.append_nil]; exact hi, Below.refl _ _⟩
 ·obtain ⟨u', w', hrun, hown', hcase⟩ := run_app (ty := ty) E B u es.length xs hown a es'.length c news hl hc h1 hn hi.base
  have hb0 : ∀ k, k < B → w'.heap[k]? = w.heap[k]? := by
   intro k hk
   have hkw : k < w.heap.size := Nat.lt_of_lt_of_le hk hi.base
   rcases hcase with ⟨hg, _⟩ | ⟨hg, _⟩
   ·refine hg.block k hkw (fun e => ?_)
    have h5 := (hi.ok _ (List.mem_cons_self)).ge (b := k) e.symm
    omega
   ·exact hg.block k hkw (by simp)
  have hmisc : w'.os = w.os ∧ w'.tape = w.tape ∧ w'.output = w.output ∧ w.heap.size ≤ w'.heap.size := by
   rcases hcase with ⟨hg, _⟩ | ⟨hg, _⟩ <;> exact ⟨hg.os, hg.tape, hg.output, hg.size⟩
  have hblk : ∀ k, k < w.heap.size → some k ≠ u.ownBlock → w'.heap[k]? = w.heap[k]? := by
   intro k hk hne
   rcases hcase with ⟨hg, _⟩ | ⟨hg, _⟩
   ·exact hg.block k hk hne
   ·exact hg.block k hk (by simp)
  have hfar := hi.far
  rw [List.pairwise_cons] at hfar
  refine ⟨u', w', hrun, ⟨Nat.le_trans hi.base hmisc.2.2.2, fun b i x e => ?_, fun r hr => ?_, ?_⟩, ⟨hmisc.1, hmisc.2.1, hmisc.2.2.1, hmisc.2.2.2, hb0⟩⟩
  ·have h := hi.fix b i x e
   have hlt := cell_size h
   have hne : some b ≠ u.ownBlock := fun q => by rw [hslack b i q.symm] at e; simp at e
   unfold World.cell? at h ⊢
   rw [hblk b hlt hne]; exact h
  ·rcases List.mem_cons.1 hr with rfl | hr
   ·refine ⟨xs ++ news, by rw [List.length_append]; exact hown', fun g i hg => ?_, by rw [List.flatten_append]; exact hrx.app hrn, ?_, ?_⟩
    ·rcases hcase with ⟨_, he⟩ | ⟨_, he⟩
     ·rw [he] at hg; exact hslack g i hg
     ·rw [he] at hg; simp at hg; exact hi.dom (by omega)
    ·intro v hv
     rcases List.mem_append.1 hv with q | q
     ·exact hox v q
     ·exact h1 v q
    ·intro x hx
     rcases List.mem_append.1 hx with q | q
     ·exact hwx x q
     ·exact hwn x q
   ·have hrok := hi.ok r (List.mem_cons_of_mem _ hr)
    refine hrok.stay (Ext.refl F) (fun b hb => ⟨hblk b (hrok.lt hb) (fun q => ?_), fun _ => rfl⟩)
    rcases hfar.1 r hr with k | k
    ·simp [Res.blk] at k; rw [k] at q; simp at q
    ·exact k (by rw [hb, q]; rfl)
  ·rw [List.pairwise_cons]
   refine ⟨fun r hr => ?_, hfar.2⟩
   have hrok := hi.ok r (List.mem_cons_of_mem _ hr)
   rcases hcase with ⟨_, he⟩ | ⟨_, he⟩
   ·have := hfar.1 r hr
    unfold Far at this ⊢
    simp only [Res.blk] at this ⊢
    rw [he]; exact this
   ·right
    simp only [Res.blk]
    rw [he]
    intro q
    have := hrok.lt q.symm
    omega
theorem op_len_row {x : Operand} {t e0 e : TypeId} {m i : Nat} {u : Value} {es : List (List AV)} (ho : o.op = .call { callee := .builtin .len, args := #[x], argTypes := #[t] }) (ht : P.underlying t = some (.slice e0)) (hx : al.ev x = some (.val u)) (hm : M[i]? = some (.row e m u es)) (q : es.length ≤ 9223372036854775807 → K (.val (.int .i64 es.length)) M) : OpT P o al M K :=
 OpT.plain fun n B F Mf ac w hi hs => by
  obtain ⟨xs, hown, _⟩ := hi.ok (.row e m u es) (List.mem_append_left _ (List.mem_of_getElem? hm))
  have hu := Xy hs hx
  rcases hown.2 with ⟨rfl, h0⟩ | ⟨g, cap, cur, rfl, _, _, hnc, hcm, _⟩
  ·rw [h0] at q
   exact ⟨_, _, by simp [execOp, ho, resolve, invoke, builtin, Builtin.len_, hu, underlying, ht, goInt], q (by omega), .val _⟩
  ·exact ⟨_, _, by simp [execOp, ho, resolve, invoke, builtin, Builtin.len_, hu, underlying, ht, goInt], q (by unfold maxLen at hcm; omega), .val _⟩
end
def Meets {σ : Type} (alx : σ → Sl) (Mx : σ → Mem) (I : σ → Prop) (al : Sl) (M : Mem) : Prop := ∃ x, I x ∧ SLe al (alx x) ∧ MLe M (Mx x)
theorem c_join {ro : Option Nat} {P : Program} {n : Nat} {ks : List Kont} {Q : Exit → Sl → Mem → Prop} {c c0 : Code} {al : Sl} {M : Mem} {σ : Type} (alx : σ → Sl) (Mx : σ → Mem) (I : σ → Prop) (h : ACode ro P n c (after ro P n [.lp (Meets alx Mx I)] (after ro P n (.code c0 :: ks) Q)) al M) (k : ∀ x, I x → AGo ro P n (.code c0 :: ks) Q (alx x) (Mx x)) : ACode ro P n c (after ro P n (.code c0 :: ks) Q) al M := by
 refine ACode.mono h ?_
 intro e al M he
 cases e with
 | normal =>
  obtain ⟨x, h1, h2, h3⟩ := he
  exact ACode.le h2 h3 (k x h1)
 | exit id => exact he
 | goto l => exact he
 | ret => exact he
 | panic c => exact he
 | outgrown => exact he
theorem c_retj {ro : Option Nat} {P : Program} {n : Nat} {ks ks' : List Kont} {Q : Exit → Sl → Mem → Prop} {al : Sl} {M : Mem} (h : Q .ret al M) : ACode ro P n .ret (after ro P n ks' (after ro P n ks Q)) al M := Ya (by rw [after_ret]; exact h)
inductive Drops (ds : List Nat) : Sl → Sl → Prop
 | nil : Drops ds [] []
 | skip {t : Nat} {v : AV} {al al' : Sl} (h : ds.contains t = true) (k : Drops ds al al') : Drops ds ((t, v) :: al) al'
 | keep {t : Nat} {v : AV} {al al' : Sl} (h : ds.contains t = false) (k : Drops ds al al') : Drops ds ((t, v) :: al) ((t, v) :: al')
theorem Drops.at {ds : List Nat} {al al' : Sl} (h : Drops ds al al') : ∀ t, (ds.contains t = false → al.lookup t = al'.lookup t) ∧ (ds.contains t = true → al'.lookup t = none) := by
 induction h with
 | nil => intro t; simp
 | @skip t v al al' h k ih =>
  intro s
  refine ⟨fun hs => ?_, (ih s).2⟩
  have : (s == t) = false := by
   by_cases e : s = t
   ·subst e; rw [h] at hs; cases hs
   ·simpa using e
  simp only [List.lookup_cons, this]
  exact (ih s).1 hs
 | @keep t v al al' h k ih =>
  intro s
  constructor
  ·intro hs
   simp only [List.lookup_cons]
   cases (s == t) with
   | true => rfl
   | false => exact (ih s).1 hs
  ·intro hs
   have : (s == t) = false := by
    by_cases e : s = t
    ·subst e; rw [h] at hs; cases hs
    ·simpa using e
   simp only [List.lookup_cons, this]
   exact (ih s).2 hs
theorem Drops.sle {ds : List Nat} {al al' : Sl} (h : Drops ds al al') : SLe al al' := fun t v e => by
 cases q : ds.contains t with
 | true => rw [((h.at t).2 q)] at e; cases e
 | false => exact ⟨v, by rw [(h.at t).1 q]; exact e, Le.refl _⟩
theorem SLe.app {al a b : Sl} (ha : SLe al a) (hb : SLe al b) : SLe al (a ++ b) := by
 intro t v e
 have e2 : List.lookup t (a ++ b) = (List.lookup t a).or (List.lookup t b) := List.lookup_append
 rw [e2] at e
 cases q : List.lookup t a with
 | some u => rw [q] at e; simp at e; subst e; exact ha t u q
 | none => rw [q] at e; simp at e; exact hb t v e
section
variable {ro : Option Nat} {P : Program} {n : Nat} {ks : List Kont} {Q : Exit → Sl → Mem → Prop} {al al' : Sl} {M : Mem} {σ : Type}
theorem Wg {c : Code} (ds : List Nat) (chg : σ → Sl) (Mx : σ → Mem) (I : σ → Prop) (μ : σ → Nat) (x0 : σ) (hd : Drops ds al al') (h0 : I x0) (hs : SLe al (chg x0)) (hm : MLe M (Mx x0))
    (h : ∀ x, I x → ACode ro P n c (after ro P n (.lp (Back (fun x => chg x ++ al') Mx I μ (μ x)) :: ks) Q) (chg x ++ al') (Mx x)) : ACode ro P n (.loop c) (after ro P n ks Q) al M :=
 c_loop (fun x => chg x ++ al') Mx I μ x0 h0 (hs.app hd.sle) hm h
theorem Xm {c : Code} (ds : List Nat) (chg : σ → Sl) (I : σ → Prop) (μ : σ → Nat) (x0 : σ) (hd : Drops ds al al') (h0 : I x0) (hs : SLe al (chg x0))
    (h : ∀ x, I x → ACode ro P n c (after ro P n (.lp (Back (fun x => chg x ++ al') (fun _ => M) I μ (μ x)) :: ks) Q) (chg x ++ al') M) : ACode ro P n (.loop c) (after ro P n ks Q) al M :=
 c_loop (fun x => chg x ++ al') (fun _ => M) I μ x0 h0 (hs.app hd.sle) (MLe.refl _) h
theorem c_joink {c c0 : Code} (ds : List Nat) (chg : σ → Sl) (Mx : σ → Mem) (I : σ → Prop) (_ : Drops ds al al') (h : ACode ro P n c (after ro P n [.lp (Meets (fun x => chg x ++ al') Mx I)] (after ro P n (.code c0 :: ks) Q)) al M) (k : ∀ x, I x → AGo ro P n (.code c0 :: ks) Q (chg x ++ al') (Mx x)) : ACode ro P n c (after ro P n (.code c0 :: ks) Q) al M :=
 c_join (fun x => chg x ++ al') Mx I h k
theorem c_joinkm {c c0 : Code} (ds : List Nat) (chg : σ → Sl) (I : σ → Prop) (_ : Drops ds al al') (h : ACode ro P n c (after ro P n [.lp (Meets (fun x => chg x ++ al') (fun _ => M) I)] (after ro P n (.code c0 :: ks) Q)) al M) (k : ∀ x, I x → AGo ro P n (.code c0 :: ks) Q (chg x ++ al') M) : ACode ro P n c (after ro P n (.code c0 :: ks) Q) al M :=
 c_join (fun x => chg x ++ al') (fun _ => M) I h k
end
section
variable {P : Program} {o : Oper} {al : Sl} {M : Mem} {K : AV → Mem → Prop}
theorem Rel.cap {F : EH} {m : Nat} {es : List (List AV)} {u : Value} (h : Rel F (.seq m es) u) : ∃ ao cap, u = .slice ao es.length cap ∧ es.length ≤ cap := by
 cases h with
 | seq0 _ ao cap hc => exact ⟨ao, cap, rfl, by simp⟩
 | seq b off cap hm hn hl h h1 hc => exact ⟨_, cap, rfl, hc⟩
theorem op_cut_of {x : Operand} {t : TypeId} {m l k : Nat} {v : AV} {es : List (List AV)} {lo hi mx : Option Operand} (ho : o.op = .slice t x lo hi mx) (hx : al.ev x = some v) (hv : IsSeq v m es) (hlk : l ≤ k) (hk : k ≤ es.length)
    (hr : ∀ (n : Nat) (F : EH) (a : Act) (w : World) (ao : Option Addr) (cap : Nat), Slots n F al a.tmps → es.length ≤ cap → (Instr.sliceAt t (.slice ao es.length cap) (lo.map a.eval) (hi.map a.eval) (mx.map a.eval)).run P w = .ok (.slice (if cap = l then ao else ao.map (·.add (l * m))) (k - l) (cap - l)) w)
    (q : K (.seq m ((es.take k).drop l)) M) : OpT P o al M K := by
 intro n B F Mf a w hi' hsl ro
 have hrel := hv.rel (hsl.ev hx)
 obtain ⟨ao, cap, hu, hcap⟩ := hrel.cap
 obtain ⟨ao', cap', hu', hmax, hsub⟩ := hrel.sub hlk hk
 rw [hu] at hu'
 simp only [Value.slice.injEq, true_and] at hu'
 obtain ⟨rfl, rfl⟩ := hu'
 refine wpR_value (w' := w) (by simp [execOp, ho, hu, hr n F a w ao cap hsl hcap]) ⟨_, _, _, F, rfl, q, hsub hcap, Ext.refl F, hi', Below.refl _ _⟩
theorem ev_int {n : Nat} {F : EH} {a : Act} {x : Operand} {ik : IntKind} {j : Int} (hs : Slots n F al a.tmps) (h : al.ev x = some (.val (.int ik j))) : a.eval x = .int ik j := Xy hs h
theorem op_cuth {x hi : Operand} {t e : TypeId} {m k : Nat} {v : AV} {es : List (List AV)} {k2 : IntKind} {b : Int} (ho : o.op = .slice t x none (some hi) none) (ht : tyElem P t = some (e, m)) (hx : al.ev x = some v) (hv : IsSeq v m es) (h2 : al.ev hi = some (.val (.int k2 b))) (hb : b = k) (hk : k ≤ es.length)
    (q : K (.seq m (es.take k)) M) : OpT P o al M K :=
 op_cut_of (l := 0) (k := k) ho hx hv (Nat.zero_le _) hk (fun n F ac w ao cap hs hc => by
  obtain ⟨hund, inf, hinf, rfl⟩ := tyElem_run ht
  have e2 := ev_int hs h2
  subst hb
  have c1 : k ≤ cap := by omega
  simp [Instr.sliceAt, Instr.slice, underlying, hund, Instr.sliceBounds, Instr.sliceBound, asIntOf, sizeOf, typeInfo, hinf, e2, c1]) (by simpa using q)
theorem Xg {x y : Operand} {t : TypeId} {ik : IntKind} {i : Nat} {j : Int} {s : ByteArray} {b : UInt8} (ho : o.op = .index t x y) (ht : P.underlying t = some .string) (hx : al.ev x = some (.val (.string s))) (hy : al.ev y = some (.val (.int ik j))) (hj : j = i) (hc : s[i]? = some b) (q : K (.val (.int .u8 b.toNat)) M) : OpT P o al M K :=
 OpT.plain fun n B F Mf ac w hi hs => by
  have h1 : ac.eval x = .string s := Xy hs hx
  have h2 := ev_int hs hy
  refine ⟨.int .u8 b.toNat, _, ?_, q, .val _⟩
  subst hj
  simp [execOp, ho, h1, h2, Instr.index, asIntOf, underlying, ht, hc]
end
abbrev rowv (g n cap : Nat) : Value := .slice (some ⟨g, 0, none⟩) n cap
theorem addr_add0' (b off j : Nat) : (⟨b, off, none⟩ : Addr).add j = ⟨b, off + j, none⟩ := by unfold Addr.add; split <;> simp_all
theorem Inv.put {B : Nat} {F : EH} {M Mf : Mem} {w w' : World} {i b : Nat} {r0 r1 : Res} (hi : Inv B F (M ++ Mf) w) (hm : M[i]? = some r0) (hb0 : r0.blk = some b) (hb1 : r1.blk = some b) (hF : ∀ j, F b j = none) (hr1 : r1.Ok B F w') (hk : ∀ k, k ≠ b → w'.heap[k]? = w.heap[k]?) (hsz : w'.heap.size = w.heap.size) : Inv B F (M.set i r1 ++ Mf) w' := by
 have hil := Vf hm
 have hi2 := hi.perm ((perm_at hm).append_right Mf)
 rw [List.cons_append] at hi2
 have hfar := hi2.far
 rw [List.pairwise_cons] at hfar
 have h : Inv B F (r1 :: (M.eraseIdx i ++ Mf)) w' := by
  refine ⟨by rw [hsz]; exact hi.base, fun c j x h => ?_, fun r hr => ?_, List.pairwise_cons.2 ⟨fun r hr => ?_, hfar.2⟩⟩
  ·have hne : c ≠ b := fun e => by subst e; rw [hF j] at h; simp at h
   rw [World.cell?_of_block (w := w) (hk c hne)]
   exact hi.fix c j x h
  ·rcases List.mem_cons.1 hr with rfl | hr
   ·exact hr1
   ·refine (hi2.ok r (List.mem_cons_of_mem _ hr)).stay (Ext.refl F) (fun c hc => ⟨hk c ?_, fun _ => rfl⟩)
    intro e
    subst e
    rcases hfar.1 r hr with k | k
    ·rw [hb0] at k; simp at k
    ·exact k (by rw [hb0, hc])
  ·right
   rw [hb1]
   rcases hfar.1 r hr with k | k
   ·rw [hb0] at k; simp at k
   ·rw [hb0] at k; exact k
 refine h.perm ?_
 rw [← List.cons_append]
 exact ((perm_set _ hil).append_right Mf).symm
structure RowAt (B : Nat) (F : EH) (w : World) (e : TypeId) (m g n cap : Nat) (es : List (List AV)) (cur : Array Value) : Prop where
 len : n = es.length
 ge : B ≤ g
 no : ∀ i, F g i = none
 wid : ∀ x ∈ es, x.length = m
 at_ : w.heap[g]? = some (.cells cur e (0, 0))
 fit : n ≤ cap
 max : cap ≤ maxLen
 siz : cur.size = cap * m
 rel : Rels F es.flatten (cur.toList.take (n * m))
 one : Ones (cur.toList.take (n * m))
theorem Res.Ok.row {B : Nat} {F : EH} {w : World} {e : TypeId} {m g n cap : Nat} {es : List (List AV)} (h : (Res.row e m (rowv g n cap) es).Ok B F w) : ∃ cur, RowAt B F w e m g n cap es cur := by
 obtain ⟨xs, hown, hslack, hrx, hox, hwx⟩ := h
 have hn := hown.1
 rcases hown.2 with ⟨q, _⟩ | ⟨g', cap', cur, q, hbg, hg, hnc, hcm, hcs, htake⟩
 ·simp at q
 ·simp only [Value.slice.injEq, Option.some.injEq, Addr.mk.injEq, and_true] at q
  obtain ⟨rfl, rfl, rfl⟩ := q
  refine ⟨cur, rfl, hbg, fun i => hslack g i rfl, hwx, hg, hnc, hcm, hcs, ?_, ?_⟩ <;> rw [htake] <;> assumption
theorem RowAt.ok {B : Nat} {F : EH} {w : World} {e : TypeId} {m g n cap : Nat} {es : List (List AV)} {cur : Array Value} (h : RowAt B F w e m g n cap es cur) : (Res.row e m (rowv g n cap) es).Ok B F w := by
 obtain ⟨h1, h2, h3, h4, h5, h6, h7, h8, h9, h10⟩ := h
 subst h1
 refine ⟨cur.toList.take (es.length * m), ⟨?_, .inr ⟨g, cap, cur, rfl, h2, h5, h6, h7, h8, rfl⟩⟩, fun g' i hg => ?_, h9, h10, h4⟩
 ·rw [List.length_take]
  have : es.length * m ≤ cap * m := Nat.mul_le_mul_right _ h6
  have h8' : cur.toList.length = cap * m := h8
  omega
 ·simp [Value.ownBlock] at hg; subst hg; exact h3 i
theorem Inv.rowAt {B : Nat} {F : EH} {M Mf : Mem} {w : World} {i : Nat} {e : TypeId} {m g n cap : Nat} {es : List (List AV)} (hi : Inv B F (M ++ Mf) w) (hm : M[i]? = some (.row e m (rowv g n cap) es)) : ∃ cur, RowAt B F w e m g n cap es cur :=
 (hi.ok _ (List.mem_append_left _ (List.mem_of_getElem? hm))).row
theorem RowAt.cell {B : Nat} {F : EH} {w : World} {e : TypeId} {m g n cap : Nat} {es : List (List AV)} {cur : Array Value} (h : RowAt B F w e m g n cap es cur) {j : Nat} (hj : j < n * m) : w.cell? ⟨g, j, none⟩ = (cur.toList.take (n * m))[j]? := by
 unfold World.cell?
 simp [h.at_, hj]
section
variable {P : Program} {al : Sl} {M : Mem} {K : AV → Mem → Prop} {o : Oper}
theorem op_index_row {x y : Operand} {t e : TypeId} {ik : IntKind} {m i g n cap k : Nat} {j : Int} {es : List (List AV)} (ho : o.op = .indexAddr t x y) (ht : tyElem P t = some (e, m)) (hx : al.ev x = some (.val (rowv g n cap))) (hm : M[i]? = some (.row e m (rowv g n cap) es)) (hy : al.ev y = some (.val (.int ik j))) (hj : j = k) (hlt : k < es.length) (q : K (.ptr g (k * m)) M) : OpT P o al M K :=
 OpT.plain fun n' B F Mf ac w hi hs => by
  obtain ⟨cur, hr⟩ := hi.rowAt hm
  obtain ⟨hu, inf, hinf, rfl⟩ := tyElem_run ht
  have hl := hr.len
  subst hj
  refine ⟨.pointer (some ⟨g, k * inf.size, none⟩), _, ?_, q, .ptr _ _⟩
  have e1 : (⟨g, 0, none⟩ : Addr).add (k * inf.size) = ⟨g, k * inf.size, none⟩ := by rw [addr_add0', Nat.zero_add]
  simp [execOp, ho, Xy hs hx, Xy hs hy, Instr.indexAt, asIntOf, underlying, hu, sizeOf, typeInfo, hinf, e1]
  omega
theorem take_setL {α : Type} : ∀ (us l : List α) (off k : Nat), off + us.length ≤ k → (setL l off us).take k = setL (l.take k) off us
 | [], l, off, k, _ => rfl
 | u :: us, l, off, k, h => by
  simp only [List.length_cons] at h
  rw [setL, setL, take_setL us _ (off + 1) k (by omega), List.take_set]
theorem op_store_rowp {x y : Operand} {t e : TypeId} {m i g n cap off k : Nat} {v : AV} {es : List (List AV)} (ho : o.op = .store t x y) (ht : (P.info? t).map (·.size) = some m) (hx : al.ev x = some (.ptr g off)) (hy : al.ev y = some v) (hf : v.flat = true) (hs : v.cells.length = m) (hm : M[i]? = some (.row e m (rowv g n cap) es)) (hoff : off = k * m) (hk : k < es.length) (q : K (.val undef) (M.set i (.row e m (rowv g n cap) (es.set k v.cells)))) : OpT P o al M K := by
 intro n' B F Mf a w hi hsl ro
 have h := hsl.ev hx
 generalize he : a.eval x = u at h
 cases h with
 | ptr =>
  obtain ⟨h1, h2⟩ := (hsl.ev hy).cells hf
  obtain ⟨cur, hr⟩ := hi.rowAt hm
  have hl1 := h1.len
  subst hoff
  have hkm : k * m + m ≤ n * m := by
   have : (k + 1) * m ≤ n * m := Nat.mul_le_mul_right _ (by rw [hr.len]; omega)
   rw [Nat.add_mul] at this; omega
  have hnc : n * m ≤ cap * m := Nat.mul_le_mul_right _ hr.fit
  have hcl : cur.toList.length = cap * m := hr.siz
  obtain ⟨w', q1, q2, q3, q4, q5, q6, q7⟩ := storeCells_run (P := P) (a.eval y).cells.toList w cur.toList (k * m) 0 (by simpa using hr.at_) h2 (by omega)
  have hrun : (execOp a.eval o).run P w = .ok .skip w' := by
   obtain ⟨inf, hinf, hsz⟩ := Option.map_eq_some_iff.1 ht
   have hcs : (a.eval y).cells.size = m := by rw [← hs, hl1]; simp
   simp [execOp, ho, he, Instr.storeAt, Instr.sureAddr, storeVar, sizeOf, typeInfo, hinf, hsz, hcs, q1]
  have htk : (setL cur.toList (k * m) (a.eval y).cells.toList).take (n * m) = setL (cur.toList.take (n * m)) (k * m) (a.eval y).cells.toList := take_setL _ _ _ _ (by omega)
  have hrow : RowAt B F w' e m g n cap (es.set k v.cells) (setL cur.toList (k * m) (a.eval y).cells.toList).toArray := by
   refine ⟨by simpa using hr.len, hr.ge, hr.no, fun z hz => ?_, q2, hr.fit, hr.max, by simpa [setL_len] using hr.siz, ?_, ?_⟩
   ·rcases List.mem_or_eq_of_mem_set hz with hz | rfl
    ·exact hr.wid z hz
    ·exact hs
   ·rw [← setL_flat es k v.cells hr.wid hs hk, htk]
    exact h1.setL _ hr.rel
   ·rw [htk]
    exact setL_one _ _ _ h2 hr.one
  refine wpR_skip hrun ⟨undef, .val undef, _, F, rfl, q, .val _, Ext.refl F, hi.put hm (b := g) rfl rfl hr.no hrow.ok q3 q4, ⟨q5, q6, q7, by omega, fun k hk => q3 k (by have := hr.ge; omega)⟩⟩
theorem op_len_val {x : Operand} {t e : TypeId} {ao : Option Addr} {n cap : Nat} (ho : o.op = .call { callee := .builtin .len, args := #[x], argTypes := #[t] }) (ht : P.underlying t = some (.slice e)) (hx : al.ev x = some (.val (.slice ao n cap))) (q : K (.val (.int .i64 n)) M) : OpT P o al M K :=
 OpT.plain fun n' B F Mf ac w hi hs => ⟨_, _, by simp [execOp, ho, resolve, invoke, builtin, Builtin.len_, Xy hs hx, underlying, ht, goInt], q, .val _⟩
end
def pick : List Nat → Mem → Option (Mem × Mem)
 | [], M => some ([], M)
 | i :: is, M => match M[i]? with
  | none => none
  | some r => match pick is (M.eraseIdx i) with
   | none => none
   | some p => some (r :: p.1, p.2)
theorem pick_perm : ∀ {is : List Nat} {M M1 M2 : Mem}, pick is M = some (M1, M2) → M.Perm (M1 ++ M2)
 | [], M, M1, M2, h => by simp [pick] at h; obtain ⟨rfl, rfl⟩ := h; exact .refl _
 | i :: is, M, M1, M2, h => by
  rw [pick] at h
  split at h
  ·cases h
  ·rename_i r hr
   split at h
   ·cases h
   ·rename_i p hp
    simp only [Option.some.injEq, Prod.mk.injEq] at h
    obtain ⟨rfl, rfl⟩ := h
    exact (perm_at hr).trans ((pick_perm (M1 := p.1) (M2 := p.2) (by rw [hp])).cons _)
abbrev KCall (P : Program) (f : FuncId) (vs : List AV) (M : Mem) (r : AV) : Prop := ACall P f vs M (fun v M' => v = r ∧ M' = M)
abbrev KBCall (P : Program) (f : FuncId) (vs : List AV) (M : Mem) (p : Prop) : Prop := ACall P f vs M (fun v M' => (∃ c : Bool, (c = true ↔ p) ∧ v = .val (.bool c)) ∧ M' = M)
section
variable {P : Program} {al : Sl} {M : Mem} {K : AV → Mem → Prop} {o : Oper}
theorem op_callat {f : FuncId} {xs : List Operand} {ts : Array TypeId} {vs vs' : List AV} (is : List Nat) {M1 M2 : Mem} {R : AV → Mem → Prop} (ho : o.op = .call { callee := .value (.func f), args := xs.toArray, argTypes := ts }) (hx : xs.mapM al.ev = some vs) (hp : pick is M = some (M1, M2)) (hc : ACall P f vs' M1 R) (hl : Les vs vs') (q : ∀ v M', R v M' → K v (M' ++ M2)) : OpT P o al M K :=
 op_callg ho hx hc hl (pick_perm hp) q
theorem op_callvat {x : Operand} {f : FuncId} {fs cs : List AV} {xs : List Operand} {ts : Array TypeId} {vs vs' : List AV} (is : List Nat) {M1 M2 : Mem} {R : AV → Mem → Prop} (ho : o.op = .call { callee := .value x, args := xs.toArray, argTypes := ts }) (hf : al.ev x = some (.clo (.func f) fs cs)) (hx : xs.mapM al.ev = some vs) (hp : pick is M = some (M1, M2)) (hc : ACall P f vs' M1 R) (hl : Les (fs ++ vs ++ cs) vs') (q : ∀ v M', R v M' → K v (M' ++ M2)) : OpT P o al M K :=
 op_callvg ho hf hx hc hl (pick_perm hp) q
theorem OpT.kept {M' : Mem} (hp : M.Perm M') (h : OpT P o al M (fun v M2 => K v M ∧ M2 = M')) : OpT P o al M K := by
 intro n B F Mf a w hi hs ro
 refine Oper.wpIn_mono ?_ (h n B F Mf a w hi hs ro)
 rintro a' w' ⟨u, v, M2, F', h1, ⟨h2, rfl⟩, h3, h4, h5, h6⟩
 exact ⟨u, v, M, F', h1, h2, h3, h4, h5.perm (hp.symm.append_right Mf), h6⟩
theorem Wr {f : FuncId} {xs : List Operand} {ts : Array TypeId} {vs vs' : List AV} (is : List Nat) {M1 M2 : Mem} {r : AV} (ho : o.op = .call { callee := .value (.func f), args := xs.toArray, argTypes := ts }) (hx : xs.mapM al.ev = some vs) (hp : pick is M = some (M1, M2)) (hc : KCall P f vs' M1 r) (hl : Les vs vs') (q : K r M) : OpT P o al M K :=
 OpT.kept (pick_perm hp) (op_callat is ho hx hp hc hl (by rintro v M' ⟨rfl, rfl⟩; exact ⟨q, rfl⟩))
theorem op_callkb {f : FuncId} {xs : List Operand} {ts : Array TypeId} {vs vs' : List AV} (is : List Nat) {M1 M2 : Mem} {p : Prop} (ho : o.op = .call { callee := .value (.func f), args := xs.toArray, argTypes := ts }) (hx : xs.mapM al.ev = some vs) (hp : pick is M = some (M1, M2)) (hc : KBCall P f vs' M1 p) (hl : Les vs vs') (q : ∀ c : Bool, (c = true ↔ p) → K (.val (.bool c)) M) : OpT P o al M K :=
 OpT.kept (pick_perm hp) (op_callat is ho hx hp hc hl (by rintro v M' ⟨⟨c, hz, rfl⟩, rfl⟩; exact ⟨q c hz, rfl⟩))
theorem Le.sle {a : Addr} {n n' c c' : Nat} (h : n = n') (k : c = c') : Le (.val (.slice (some a) n c)) (.val (.slice (some a) n' c')) := by rw [h, k]; exact Le.refl _
theorem MLe.pre : ∀ M M2 : Mem, MLe (M ++ M2) M
 | [], _ => MLe.none _
 | r :: M, M2 => .cons r (MLe.pre M M2)
theorem MLe.of_eq {M M' : Mem} (h : M = M') : MLe M M' := by rw [h]; exact MLe.refl _
inductive IsPtr : AV → Prop
 | m (b off : Nat) : IsPtr (.ptr b off)
 | c (cs : List AV) : IsPtr (.cptr cs)
theorem IsPtr.rel {v : AV} (h : IsPtr v) {F : EH} {u : Value} (hr : Rel F v u) : ∃ a, u = .pointer (some a) := by
 cases h <;> cases hr <;> exact ⟨_, rfl⟩
end
end Go.Proofs.YtknodnfbaofngaaGreat
