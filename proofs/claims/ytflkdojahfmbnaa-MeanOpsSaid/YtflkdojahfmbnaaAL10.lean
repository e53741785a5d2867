/- A logic of trees, part 10: ranges over a function: the loop's record as a resource, a call of yield, an iterator's contract, and the statement. -/
import Derived.Test.YtflkdojahfmbnaaAL9
import Derived.RangeFuncRecord
import Derived.RangeFuncSeq
namespace Go.Proofs.Ytflkdojahfmbnaa
open Go.RowKit
/-- a box that is never written -/
theorem op_boxc {P : Program} {al : Sl} {M : Mem} {K : AV → Mem → Prop} {o : Oper} {x : Operand} {t : TypeId} {v : AV} (ho : o.op = .box t x) (hx : al.ev x = some v) (hf : v.flat = true) {cs' : List AV} (hc : v.cells = cs') (q : K (.cptr cs') M) : OpT P o al M K := by
  subst hc
  intro n B F Mf a w hi hs ro
  obtain ⟨hr, h1⟩ := (hs.ev hx).cells hf
  have hn := hi.newFix (a.eval x).cells.toList t
  rw [Array.toArray_toList] at hn
  have hE := EH.new_ext hi (a.eval x).cells.toList
  refine wpR_value (u := .pointer (some ⟨w.heap.size, 0, none⟩)) (by simp [execOp, ho, Instr.box, newVar, newRow]) ⟨_, _, M, _, rfl, q, ?_, hE, hn, alloc_below _ hi.base⟩
  exact .cptr _ 0 (EH.new_lies F w.heap.size _) (hr.mono hE) h1
/-- calls of a closure by the kinds of contracts -/
theorem op_callvb {P : Program} {al : Sl} {M : Mem} {K : AV → Mem → Prop} {o : Oper} {x : Operand} {f : FuncId} {fs cs : List AV} {xs : List Operand} {ts : Array TypeId} {vs vs' : List AV} {p : Prop} (ho : o.op = .call { callee := .value x, args := xs.toArray, argTypes := ts }) (hf : al.ev x = some (.clo (.func f) fs cs)) (hx : xs.mapM al.ev = some vs) (hc : BCall P f vs' p) (hl : Les (fs ++ vs ++ cs) vs') (q : ∀ c : Bool, (c = true ↔ p) → K (.val (.bool c)) M) : OpT P o al M K :=
  op_callvp ho hf hx hc hl (by rintro v M' ⟨⟨c, h, rfl⟩, rfl⟩; rw [List.append_nil]; exact q c h)
theorem op_callvpp {P : Program} {al : Sl} {M : Mem} {K : AV → Mem → Prop} {o : Oper} {x : Operand} {f : FuncId} {fs cs : List AV} {xs : List Operand} {ts : Array TypeId} {vs vs' : List AV} {r : AV} (ho : o.op = .call { callee := .value x, args := xs.toArray, argTypes := ts }) (hf : al.ev x = some (.clo (.func f) fs cs)) (hx : xs.mapM al.ev = some vs) (hc : PCall P f vs' r) (hl : Les (fs ++ vs ++ cs) vs') (q : K r M) : OpT P o al M K :=
  op_callvp ho hf hx hc hl (by rintro v M' ⟨rfl, rfl⟩; rw [List.append_nil]; exact q)
/-- a new object that is no cells -/
theorem Inv.newObj {B : Nat} {F : EH} {M : Mem} {w : World} (hi : Inv B F M w) (o : Obj) (ho : o.isCells = false) (p : EH → Obj → Prop) (hp : ∀ F', Ext F F' → p F' o) : Inv B F (.objp w.heap.size p :: M) (w.alloc o) := by
  refine ⟨by have := hi.base; simp; omega, fix_alloc hi o, fun r hr => ?_, ?_⟩
  · rcases List.mem_cons.1 hr with rfl | hr
    · exact ⟨hi.base, fun i => hi.dom (Nat.le_refl _), o, World.alloc_heap_new w o, ho, hp⟩
    · refine (hi.ok r hr).stay (Ext.refl F) (fun b hb => ⟨?_, fun _ => rfl⟩)
      have := (hi.ok r hr).lt hb
      rw [alloc_get, if_neg (by omega)]
  · rw [List.pairwise_cons]
    refine ⟨fun r hr => ?_, hi.far⟩
    right
    intro e
    have := (hi.ok r hr).lt e.symm
    omega
/-- the record of a loop: the slots of the frame that ranges -/
def LoopIs (n : Nat) (al : Sl) (ps : Array Tmp) (assign body : Code) (busy : Bool) (pend : Option Code) (F : EH) (o : Obj) : Prop :=
  ∃ r : Loop, o = .loop r ∧ (if busy then r.state = .busy else r.state = (if pend.isNone then .ready else .done) ∧ r.pending = pend) ∧ r.params = ps ∧ r.assign = assign ∧ r.body = body ∧ Slots n F al r.tmps
abbrev lrec (l n : Nat) (al : Sl) (ps : Array Tmp) (assign body : Code) (busy : Bool) (pend : Option Code) : Res := .objp l (LoopIs n al ps assign body busy pend)
abbrev yv (l : Nat) : AV := .val (.func (.yield l) #[] #[])
def YCall (P : Program) (l : Nat) (vs : List AV) (M : Mem) (R : AV → Mem → Prop) : Prop :=
  ∀ (B : Nat) (F : EH) (Mf : Mem) (w : World) (us : List Value), Inv B F (M ++ Mf) w → Rels F vs us → ∀ ro : Option Nat,
    YieldAt (RF ro) 0 P l us.toArray w (fun e w' => ∃ u v M' F', e = .returned u ∧ R v M' ∧ Rel F' v u ∧ Ext F F' ∧ Inv B F' (M' ++ Mf) w' ∧ Below B w w')
section
variable {P : Program} {l : Nat} {vs : List AV} {M : Mem} {R : AV → Mem → Prop}
theorem YieldAt.weak {F : Fence} {m : Nat} {args : Array Value} {W : World} {Q Q' : Ending → World → Prop} (h : YieldAt F m P l args W Q) (hr : ∀ e w, Q e w → Q' e w) : YieldAt F m P l args W Q' := by
  obtain ⟨fn, tmps, assign, body, h1, h2⟩ := h
  exact ⟨fn, tmps, assign, body, h1, h2.mono hr⟩
theorem YCall.mono {R' : AV → Mem → Prop} (h : YCall P l vs M R) (hr : ∀ v M', R v M' → R' v M') : YCall P l vs M R' :=
  fun B F Mf w us hi hv ro => YieldAt.weak (h B F Mf w us hi hv ro) fun _ _ ⟨u, v, M', F', h1, h2, h3⟩ => ⟨u, v, M', F', h1, hr _ _ h2, h3⟩
theorem YCall.frame (h : YCall P l vs M R) (M1 : Mem) : YCall P l vs (M ++ M1) (fun v M' => ∃ M0, M' = M0 ++ M1 ∧ R v M0) :=
  fun B F Mf w us hi hv ro => YieldAt.weak (h B F (M1 ++ Mf) w us (by rw [← List.append_assoc]; exact hi) hv ro) fun _ _ ⟨u, v, M', F', h1, h2, h3, h4, h5, h6⟩ =>
    ⟨u, v, M' ++ M1, F', h1, ⟨M', rfl, h2⟩, h3, h4, by rw [List.append_assoc]; exact h5, h6⟩
theorem YCall.perm {M' : Mem} (h : YCall P l vs M R) (hp : M'.Perm M) : YCall P l vs M' R :=
  fun B F Mf w us hi hv ro => h B F Mf w us (hi.perm (hp.append_right Mf)) hv ro
theorem YCall.swap {M2 : Mem} (h : YCall P l vs M R) : YCall P l vs (M2 ++ M) (fun v M' => ∃ M0, M' = M2 ++ M0 ∧ R v M0) :=
  fun B F Mf w us hi hv ro => by
    have e : (M2 ++ M ++ Mf).Perm (M ++ (M2 ++ Mf)) := by rw [List.append_assoc]; exact List.perm_append_comm_assoc _ _ _
    refine YieldAt.weak (h B F (M2 ++ Mf) w us (hi.perm e) hv ro) fun _ _ ⟨u, v, M', F', h1, h2, h3, h4, h5, h6⟩ => ⟨u, v, M2 ++ M', F', h1, ⟨M', rfl, h2⟩, h3, h4, h5.perm ?_, h6⟩
    rw [List.append_assoc]; exact List.perm_append_comm_assoc _ _ _
theorem YCall.args {vs' : List AV} (hl : Les vs vs') (h : YCall P l vs' M R) : YCall P l vs M R :=
  fun B F Mf w us hi hv ro => h B F Mf w us hi (hl _ _ hv) ro
/-- a call of yield that takes the last part of the memory along -/
theorem op_yield {al : Sl} {K : AV → Mem → Prop} {o : Oper} {x : Operand} {xs : List Operand} {ts : Array TypeId} {vs' : List AV} {MM : Mem} (M2 : Mem) (ho : o.op = .call { callee := .value x, args := xs.toArray, argTypes := ts }) (hf : al.ev x = some (yv l)) (hx : xs.mapM al.ev = some vs') (hM : MM = M2 ++ M) (hc : YCall P l vs M R) (hl : Les vs' vs) (q : ∀ v M', R v M' → K v (M2 ++ M')) : OpT P o al MM K := by
  subst hM
  intro n B F Mf a w hi hs ro
  have he := ev_val hs hf
  obtain ⟨fn, tmps, assign, body, h1, h2⟩ := (YCall.swap (M2 := M2) (YCall.args hl hc)) B F Mf w _ hi (Rels.map_ev hs hx) ro
  have e : (execOp a.eval o).run P w = .ok (.round l fn tmps assign body) w := by
    simp only [execOp, ho, resolve, he, Deferred.ofValue, Sem.run_bind, Sem.run_pure, Result.andThen_ok, invoke, List.map_toArray, List.append_toArray, List.nil_append]
    exact h1
  refine ⟨fun _ _ => trivial, ?_⟩
  rw [Oper.semAt_eq _ _ _ (not_defer e (by simp)), e]
  refine ⟨fun q => by simp [Fence.wide] at q, h2.mono ?_⟩
  rintro e w' ⟨u, v, M', F', rfl, ⟨M0, rfl, h2⟩, h3, h4, h5, h6⟩
  exact ⟨u, v, M2 ++ M0, F', rfl, q v M0 h2, h3, h4, h5, h6⟩
end
def putL : Sl → List Nat → List AV → Sl
  | al, p :: ps, v :: vs => putL ((p, v) :: al) ps vs
  | al, _, _ => al
theorem putL_slots {n : Nat} {F : EH} : ∀ {ps : List Nat} {vs : List AV} {us : List Value} {al : Sl} {tmps : Array Value}, Slots n F al tmps → (ps.all fun p => Nat.blt p n) = true → Rels F vs us → ps.length = vs.length →
    Slots n F (putL al ps vs) ((ps.zip us).foldl (fun t (p : Nat × Value) => t.setIfInBounds p.1 p.2) tmps)
  | [], vs, us, al, tmps, h, _, hr, hl => by cases vs <;> simp_all [putL]
  | p :: ps, [], us, al, tmps, h, _, hr, hl => by simp at hl
  | p :: ps, v :: vs, us, al, tmps, h, hp, hr, hl => by
    cases hr with
    | cons h1 hs =>
      simp only [List.all_cons, Bool.and_eq_true] at hp
      have hpn : p < n := by simpa [Nat.blt_eq] using hp.1
      have := Slots.put (a := { tmps := tmps, defers := [] }) (d := some p) h (by simpa using hpn) h1
      simp only [putL, List.zip_cons_cons, List.foldl_cons]
      exact putL_slots this hp.2 hs (by simpa using hl)
def RoundQ (Rn : Mem → Prop) (Rx : Code → Mem → Prop) : Exit → Sl → Mem → Prop
  | .normal, _, M => Rn M
  | .ret, _, M => Rx .ret M
  | .exit id, _, M => Rx (.exit id) M
  | .goto t, _, M => Rx (.goto t) M
  | _, _, _ => False
theorem Inv.mid {B : Nat} {F : EH} {A C : Mem} {r : Res} {w : World} : Inv B F (A ++ (r :: C)) w ↔ Inv B F (r :: (A ++ C)) w :=
  ⟨fun h => h.perm (List.perm_middle (a := r) (l₁ := A) (l₂ := C)), fun h => h.perm (List.perm_middle (a := r) (l₁ := A) (l₂ := C)).symm⟩
/-- a round, walked with the record out of sight -/
theorem YCall.of_code {P : Program} {l n : Nat} {al : Sl} {ps : List Nat} {assign body : Code} {vs : List AV} {M0 : Mem} {Rn : Mem → Prop} {Rx : Code → Mem → Prop} (hps : ps.length = vs.length) (hin : (ps.all fun p => Nat.blt p n) = true)
    (h : ACode (some l) P n assign (Then (fun al1 M1 => ACode (some l) P n body (RoundQ Rn Rx) al1 M1) (fun _ _ _ => False)) (putL al ps vs) M0) :
    YCall P l vs (lrec l n al ps.toArray assign body false none :: M0) (fun v M' => (v = .val (.bool true) ∧ ∃ M1, M' = lrec l n al ps.toArray assign body false none :: M1 ∧ Rn M1) ∨ (v = .val (.bool false) ∧ ∃ M1 c, M' = lrec l n al ps.toArray assign body false (some c) :: M1 ∧ Rx c M1)) := by
  intro B F Mf w us hi hr ro
  have hi : Inv B F (lrec l n al ps.toArray assign body false none :: (M0 ++ Mf)) w := hi
  obtain ⟨hB, hF, o, ho, _, hp⟩ := hi.ok _ (List.mem_cons_self)
  obtain ⟨r, rfl, ⟨hst, hpe⟩, hpa, has, hbo, hsl⟩ := hp F (Ext.refl F)
  have hlen := hr.len
  have hsz : us.toArray.size = r.params.size := by rw [hpa]; simp; omega
  have hfold : ((r.params.zip us.toArray).foldl (fun tmps (p : Tmp × Value) => tmps.setIfInBounds p.1 p.2) r.tmps) = (ps.zip us).foldl (fun t (p : Nat × Value) => t.setIfInBounds p.1 p.2) r.tmps := by
    rw [hpa, List.zip_toArray, List.foldl_toArray']
    simp
  refine ⟨r.fn, _, r.assign, r.body, run_yield ho hsz, roundIn_of_wpIn trivial ?_⟩
  rw [has, hbo]
  have hsl' : Slots n F (putL al ps vs) ((r.params.zip us.toArray).foldl (fun tmps (p : Tmp × Value) => tmps.setIfInBounds p.1 p.2) r.tmps) := by
    rw [hfold]
    exact putL_slots hsl hin hr hps
  have hcode := h B F (lrec l n al ps.toArray assign body false none :: Mf) { tmps := (r.params.zip us.toArray).foldl (fun tmps (p : Tmp × Value) => tmps.setIfInBounds p.1 p.2) r.tmps, defers := [] } w (Inv.mid.2 hi) hsl'
  have hcode : assign.wpIn ((RF ro).inRound l) 0 P _ _ w := hcode
  refine Code.wpIn_mono ?_ hcode
  rintro e a1 w1 ⟨Ds, F1, al1, M1, hq, hE1, hi1, hs1, hd1, hb1⟩
  cases e with
  | normal =>
    have hi1' : Inv B F1 (lrec l n al ps.toArray assign body false none :: (M1 ++ (Ds.map spent ++ Mf))) w1 := by
      refine hi1.perm ?_
      rw [← List.append_assoc, ← List.append_assoc]
      exact List.perm_middle
    obtain ⟨_, _, o1, ho1, _, hp1⟩ := hi1'.ok _ (List.mem_cons_self)
    obtain ⟨r1, rfl, ⟨hst1, hpe1⟩, hpa1, has1, hbo1, hsl1⟩ := hp1 F1 (Ext.refl F1)
    obtain ⟨_, hbl, hput⟩ := hi1'.objPut (.loop { r1 with state := .busy })
    have hi2 := hput rfl (LoopIs n al ps.toArray assign body true none) (fun F' e => ⟨_, rfl, rfl, hpa1, has1, hbo1, hsl1.mono e⟩)
    refine ⟨_, run_beginRound ho1 hst1, ?_⟩
    have hi2' : Inv B F1 (M1 ++ (Ds.map spent ++ (lrec l n al ps.toArray assign body true none :: Mf))) (w1.putObj l (.loop { r1 with state := .busy })) := by
      refine hi2.perm ?_
      rw [← List.append_assoc, ← List.append_assoc]
      exact List.perm_middle.symm
    have hbody := hq B F1 (Ds.map spent ++ (lrec l n al ps.toArray assign body true none :: Mf)) a1 _ hi2' hs1
    have hbody : body.wpIn ((RF ro).inRound l) 0 P _ a1 _ := hbody
    refine Code.wpIn_mono ?_ hbody
    rintro e a2 w2 ⟨Ds2, F2, al2, M2, hq2, hE2, hi3, hs2, hd2, hb2⟩
    have hi3' : Inv B F2 (lrec l n al ps.toArray assign body true none :: (M2 ++ (Ds2.map spent ++ (Ds.map spent ++ Mf)))) w2 := by
      refine hi3.perm ?_
      rw [← List.append_assoc, ← List.append_assoc, ← List.append_assoc, ← List.append_assoc]
      exact List.perm_middle
    obtain ⟨_, _, o3, ho3, _, hp3⟩ := hi3'.ok _ (List.mem_cons_self)
    obtain ⟨r3, rfl, hst3, hpa3, has3, hbo3, hsl3⟩ := hp3 F2 (Ext.refl F2)
    have fin : ∀ jump : Option Code, ∃ w', (Instr.endRound l jump).run P w2 = .ok (.bool jump.isNone) w' ∧ Inv B F2 ((lrec l n al ps.toArray assign body false jump :: M2) ++ Mf) w' ∧ Below B w w' := by
      intro jump
      obtain ⟨_, hbl4, hput4⟩ := hi3'.objPut (.loop { r3 with state := if jump.isNone then .ready else .done, pending := jump })
      have hi4 := hput4 rfl (LoopIs n al ps.toArray assign body false jump) (fun F' e => ⟨_, rfl, ⟨rfl, rfl⟩, hpa3, has3, hbo3, hsl3.mono e⟩)
      refine ⟨_, run_endRound jump ho3, ?_, ((hb1.trans hbl).trans hb2).trans hbl4⟩
      refine hi4.sub ?_
      rw [List.cons_append]
      refine List.Sublist.cons_cons _ (List.Sublist.append (List.Sublist.refl _) ?_)
      exact List.Sublist.trans (List.sublist_append_right _ _) (List.sublist_append_right _ _)
    cases e with
    | normal =>
      obtain ⟨w', h1, h2, h3⟩ := fin none
      exact ⟨_, w', h1, _, _, _, F2, rfl, .inl ⟨rfl, M2, rfl, hq2⟩, .val _, hE1.trans hE2, h2, h3⟩
    | ret =>
      obtain ⟨w', h1, h2, h3⟩ := fin (some .ret)
      exact ⟨_, w', h1, _, _, _, F2, rfl, .inr ⟨rfl, M2, _, rfl, hq2⟩, .val _, hE1.trans hE2, h2, h3⟩
    | exit id =>
      obtain ⟨w', h1, h2, h3⟩ := fin (some (.exit id))
      exact ⟨_, w', h1, _, _, _, F2, rfl, .inr ⟨rfl, M2, _, rfl, hq2⟩, .val _, hE1.trans hE2, h2, h3⟩
    | goto t =>
      obtain ⟨w', h1, h2, h3⟩ := fin (some (.goto t))
      exact ⟨_, w', h1, _, _, _, F2, rfl, .inr ⟨rfl, M2, _, rfl, hq2⟩, .val _, hE1.trans hE2, h2, h3⟩
    | panic c => exact hq2.elim
    | outgrown => exact hq2.elim
  | exit id => exact hq.elim
  | goto t => exact hq.elim
  | ret => exact hq.elim
  | panic c => exact hq.elim
  | outgrown => exact hq.elim
theorem c_asg {ro : Option Nat} {P : Program} {n : Nat} {c : Code} {K : Sl → Mem → Prop} {al : Sl} {M : Mem} (h : ACode ro P n c (after ro P n [.lp K] (fun _ _ _ => False)) al M) : ACode ro P n c (Then K (fun _ _ _ => False)) al M := h
theorem op_max {P : Program} {al : Sl} {M : Mem} {K : AV → Mem → Prop} {o : Oper} {x y : Operand} {ts : Array TypeId} {k : IntKind} {a b : Int} (ho : o.op = .call { callee := .builtin .max, args := #[x, y], argTypes := ts }) (hx : al.ev x = some (.val (.int k a))) (hy : al.ev y = some (.val (.int k b))) (q : K (.val (.int k (max a b))) M) : OpT P o al M K :=
  OpT.plain fun n B F Mf ac w hi hs => ⟨_, _, by
    simp [execOp, ho, resolve, invoke, builtin, Builtin.max_, ev_val hs hx, ev_val hs hy, Builtin.max2]
    split <;> omega, q, .val _⟩
theorem op_min {P : Program} {al : Sl} {M : Mem} {K : AV → Mem → Prop} {o : Oper} {x y : Operand} {ts : Array TypeId} {k : IntKind} {a b : Int} (ho : o.op = .call { callee := .builtin .min, args := #[x, y], argTypes := ts }) (hx : al.ev x = some (.val (.int k a))) (hy : al.ev y = some (.val (.int k b))) (q : K (.val (.int k (min a b))) M) : OpT P o al M K :=
  OpT.plain fun n B F Mf ac w hi hs => ⟨_, _, by
    simp [execOp, ho, resolve, invoke, builtin, Builtin.min_, ev_val hs hx, ev_val hs hy, Builtin.min2]
    split <;> omega, q, .val _⟩
theorem x_out {ro : Option Nat} {P : Program} {n : Nat} {Q : Exit → Sl → Mem → Prop} {id : Nat} {al : Sl} {M : Mem} (h : Q (.exit id) al M) : AX ro P n [] Q id al M := h
/-- no slice is longer than an int: one behind a pointer to cells that stay -/
theorem c_lenp {ro : Option Nat} {P : Program} {n : Nat} {ks : List Kont} {Q : Exit → Sl → Mem → Prop} {al : Sl} {M : Mem} {c : Code} {t j m : Nat} {cs : List AV} {v : AV} {es : List (List AV)} (ht : al.lookup t = some (.cptr cs)) (hj : cs[j]? = some v) (hq : IsSeq v m es) (h : es.length ≤ 9223372036854775807 → ACode ro P n c (after ro P n ks Q) al M) : ACode ro P n c (after ro P n ks Q) al M := by
  intro B F Mf a w hi hs
  have h2 := (hs.2 t _ ht).2
  generalize a.tmps.getD t undef = y at h2
  cases h2 with
  | cptr b off hl hr _ =>
    obtain ⟨u, _, hu⟩ := hr.get hj
    exact h (hq.rel hu).seq_max B F Mf a w hi hs
theorem yres {v : AV} {A B : Prop} (h : (v = .val (.bool true) ∧ A) ∨ (v = .val (.bool false) ∧ B)) : ∃ c : Bool, v = .val (.bool c) ∧ (c = true → A) ∧ (c = false → B) := by
  rcases h with ⟨rfl, h⟩ | ⟨rfl, h⟩
  · exact ⟨true, rfl, fun _ => h, fun e => by simp at e⟩
  · exact ⟨false, rfl, fun e => by simp at e, fun _ => h⟩
/-- an iterator that yields a row, one behind the other, until it is stopped -/
def Iter (P : Program) (f : FuncId) (fs cs : List AV) (xs : List (List AV)) : Prop :=
  ∀ (l : Nat) (J Jx : Nat → Mem → Prop), (∀ k x M, xs[k]? = some x → J k M → YCall P l x M (fun v M' => (v = .val (.bool true) ∧ J (k + 1) M') ∨ (v = .val (.bool false) ∧ Jx (k + 1) M'))) →
    ∀ M, J 0 M → ACall P f (fs ++ [yv l] ++ cs) M (fun _ M' => J xs.length M' ∨ ∃ k, k ≤ xs.length ∧ Jx k M')
/-- the statement, in a function's own frame -/
theorem c_range {P : Program} {n : Nat} {ks : List Kont} {Q : Exit → Sl → Mem → Prop} {al : Sl} {M : Mem} {g : Operand} {f : FuncId} {fs cs : List AV} {xs : List (List AV)} {ps : List Nat} {assign body : Code} (hg : al.ev g = some (.clo (.func f) fs cs)) (hit : Iter P f fs cs xs)
    (J : Nat → Mem → Prop) (Jx : Code → Mem → Prop) (h0 : J 0 M) (hps : ∀ x ∈ xs, ps.length = x.length) (hin : (ps.all fun p => Nat.blt p n) = true)
    (hbody : ∀ (l k : Nat) (x : List AV) (M0 : Mem), xs[k]? = some x → J k M0 → ACode (some l) P n assign (Then (fun al1 M1 => ACode (some l) P n body (RoundQ (J (k + 1)) Jx) al1 M1) (fun _ _ _ => False)) (putL al ps x) M0)
    (hdone : ∀ M', J xs.length M' → AGo none P n ks Q al M') (hjump : ∀ c M', Jx c M' → ACode none P n c (after none P n ks Q) al M') :
    ACode none P n (.rangeFunc g ps.toArray assign body) (after none P n ks Q) al M := by
  intro B F Mf a w hi hs
  have h := hs.ev hg
  generalize he : a.eval g = u at h
  cases h with
  | clo _ hvf hvc =>
    rename_i vf vc
    refine wpIn_rangeFunc fun fn _ => ?_
    have hi1 := hi.newObj (.deferred (some [])) rfl (fun _ o' => o' = .deferred (some [])) (fun _ _ => rfl)
    let r0 : Loop := { state := .ready, pending := none, fn := fn, tmps := a.tmps, params := ps.toArray, assign := assign, body := body, defers := w.heap.size }
    have hi2 := hi1.newObj (.loop r0) rfl (LoopIs n al ps.toArray assign body false none) (fun F' e => ⟨r0, rfl, ⟨rfl, rfl⟩, rfl, rfl, rfl, hs.mono e⟩)
    have hl : (w.alloc (.deferred (some []))).heap.size = w.heap.size + 1 := by simp
    rw [hl] at hi2
    have hit' := hit (w.heap.size + 1) (fun k M => ∃ M0, M = lrec (w.heap.size + 1) n al ps.toArray assign body false none :: M0 ∧ J k M0) (fun _ M => ∃ M0 c, M = lrec (w.heap.size + 1) n al ps.toArray assign body false (some c) :: M0 ∧ Jx c M0) (by
      rintro k x M0 hx ⟨M1, rfl, hJ⟩
      refine YCall.mono (YCall.of_code (hps x (List.mem_of_getElem? hx)) hin (hbody _ k x M1 hx hJ)) ?_
      rintro v M' (⟨rfl, M2, rfl, h2⟩ | ⟨rfl, M2, c, rfl, h2⟩)
      · exact .inl ⟨rfl, M2, rfl, h2⟩
      · exact .inr ⟨rfl, M2, c, rfl, h2⟩) (lrec (w.heap.size + 1) n al ps.toArray assign body false none :: M) ⟨M, rfl, h0⟩
    have hB1 : Below B w ((w.alloc (.deferred (some []))).alloc (.loop r0)) := (alloc_below _ hi.base).trans (alloc_below _ (by have := hi.base; simp; omega))
    have hi2' : Inv B F ((lrec (w.heap.size + 1) n al ps.toArray assign body false none :: M) ++ (spent w.heap.size :: Mf)) ((w.alloc (.deferred (some []))).alloc (.loop r0)) := by
      refine hi2.perm ?_
      rw [List.cons_append]
      exact (List.Perm.cons _ (List.perm_middle (a := spent w.heap.size) (l₁ := M) (l₂ := Mf))).symm
    let W1 : World := (w.alloc (.deferred (some []))).alloc (.loop r0)
    refine ⟨w.heap.size + 1, [mark w.heap.size], W1, { target := .fn (.func f) vc.toArray, args := (vf ++ [Value.func (.yield (w.heap.size + 1)) #[] #[]]).toArray }, W1, f, (vf ++ [Value.func (.yield (w.heap.size + 1)) #[] #[]] ++ vc).toArray, W1, run_enterLoop_outer fn a.tmps ps.toArray assign body, ?_, fun _ _ => trivial, ?_, fun q => by simp [Fence.wide] at q, ?_⟩
    · have hc : a.eval (.const (.func (.yield (w.heap.size + 1)) #[] #[])) = .func (.yield (w.heap.size + 1)) #[] #[] := rfl
      simp [resolve, he, Deferred.ofValue, hc]
    · simp only [invoke, List.append_toArray]
      exact hit'.ent _ _
    · refine callsIn_RF.2 ((hit'.run B F (spent w.heap.size :: Mf) _ _ hi2' ((hvf.app (Rels.cons (.val _) .nil)).app hvc)).mono ?_)
      rintro e w3 ⟨u, v, M', F', rfl, hor, _, hE, hi3, hb3⟩
      rcases hor with ⟨M0, rfl, hJ⟩ | ⟨_, _, M0, c, rfl, hJ⟩
      · have hi3 : Inv B F' (lrec (w.heap.size + 1) n al ps.toArray assign body false none :: (M0 ++ (spent w.heap.size :: Mf))) w3 := hi3
        obtain ⟨_, _, o3, ho3, _, hp3⟩ := hi3.ok _ (List.mem_cons_self)
        obtain ⟨r3, rfl, ⟨hst3, hpe3⟩, _⟩ := hp3 F' (Ext.refl F')
        obtain ⟨hi4, hbl4, _⟩ := hi3.objPut (.loop { r3 with state := .exhausted })
        have hend : (Instr.endLoop (w.heap.size + 1)).run P w3 = .ok (none) (w3.putObj (w.heap.size + 1) (.loop { r3 with state := .exhausted })) := by
          rw [run_endLoop (P := P) ho3 (by rw [hst3]; simp), hpe3]
        refine ⟨none, _, hend, ?_⟩
        exact ⟨[w.heap.size], F', al, M0, hdone M0 hJ, hE, hi4, hs.mono hE, rfl, (hB1.trans hb3).trans hbl4⟩
      · have hi3 : Inv B F' (lrec (w.heap.size + 1) n al ps.toArray assign body false (some c) :: (M0 ++ (spent w.heap.size :: Mf))) w3 := hi3
        obtain ⟨_, _, o3, ho3, _, hp3⟩ := hi3.ok _ (List.mem_cons_self)
        obtain ⟨r3, rfl, ⟨hst3, hpe3⟩, _⟩ := hp3 F' (Ext.refl F')
        obtain ⟨hi4, hbl4, _⟩ := hi3.objPut (.loop { r3 with state := .exhausted })
        have hend : (Instr.endLoop (w.heap.size + 1)).run P w3 = .ok (some c) (w3.putObj (w.heap.size + 1) (.loop { r3 with state := .exhausted })) := by
          rw [run_endLoop (P := P) ho3 (by rw [hst3]; simp), hpe3]
        refine ⟨some c, _, hend, ?_⟩
        refine Code.wpIn_mono ?_ (hjump c M0 hJ B F' (spent w.heap.size :: Mf) { a with defers := mark w.heap.size :: a.defers } _ hi4 (hs.mono hE))
        intro e a5 w5 hp
        exact PostD.next (Ds := [w.heap.size]) hE ((hB1.trans hb3).trans hbl4) hp
end Go.Proofs.Ytflkdojahfmbnaa
