/- A logic of trees, part 3: what makes and writes memory; weaker values; entering a function. -/
import Derived.Test.YtflkdojahfmbnaaAL2
namespace Go.Proofs.Ytflkdojahfmbnaa
open Go.RowKit
/-- a weaker word for a value -/
def Le (v v' : AV) : Prop := ∀ F u, Rel F v u → Rel F v' u
theorem Le.refl (v : AV) : Le v v := fun _ _ h => h
theorem Le.trans {a b c : AV} (h : Le a b) (k : Le b c) : Le a c := fun F u x => k F u (h F u x)
theorem Le.own (u : Value) (m : Nat) (es : List (List AV)) : Le (.own u m es) (.seq m es) := fun F x h => by cases h with | own _ h => exact h
theorem Le.nil (m : Nat) : Le (.val (.slice none 0 0)) (.seq m []) := fun F u h => by cases h; exact .seq0 m none 0 (fun _ => rfl)
theorem Le.isSeq {v : AV} {m : Nat} {es : List (List AV)} (h : IsSeq v m es) : Le v (.seq m es) := fun _ _ hr => h.rel hr
def Les (vs vs' : List AV) : Prop := ∀ F us, Rels F vs us → Rels F vs' us
theorem Les.refl (vs : List AV) : Les vs vs := fun _ _ h => h
theorem Les.cons {v v' : AV} {vs vs' : List AV} (h : Le v v') (hs : Les vs vs') : Les (v :: vs) (v' :: vs') := fun F us k => by
  cases k with | cons k1 k2 => exact .cons (h _ _ k1) (hs _ _ k2)
theorem Le.agg {cs cs' : List AV} (h : Les cs cs') : Le (.agg cs) (.agg cs') := fun F u k => by
  cases k with | agg k h1 => exact .agg (h _ _ k) h1
theorem Le.tup {cs cs' : List AV} (h : Les cs cs') : Le (.tup cs) (.tup cs') := fun F u k => by
  cases k with | tup k => exact .tup (h _ _ k)
theorem Le.cptr {cs cs' : List AV} (h : Les cs cs') : Le (.cptr cs) (.cptr cs') := fun F u k => by
  cases k with | cptr b off hl k h1 => exact .cptr b off hl (h _ _ k) h1
theorem Les.app {a b c d : List AV} (h : Les a b) (k : Les c d) : Les (a ++ c) (b ++ d) := fun F us x => by
  obtain ⟨vs, ws, rfl, h1, h2⟩ := Rels.split x
  exact (h _ _ h1).app (k _ _ h2)
inductive Less : List (List AV) → List (List AV) → Prop
  | nil : Less [] []
  | cons {a b : List AV} {as bs : List (List AV)} (h : Les a b) (hl : a.length = b.length) (hs : Less as bs) : Less (a :: as) (b :: bs)
theorem Less.flat : ∀ {as bs : List (List AV)}, Less as bs → Les as.flatten bs.flatten
  | _, _, .nil => Les.refl _
  | _, _, .cons h _ hs => by simpa using h.app hs.flat
theorem Less.len : ∀ {as bs : List (List AV)}, Less as bs → as.length = bs.length
  | _, _, .nil => rfl
  | _, _, .cons _ _ hs => by simp [hs.len]
theorem Less.wide {m : Nat} : ∀ {as bs : List (List AV)}, Less as bs → (∀ e ∈ as, e.length = m) → ∀ e ∈ bs, e.length = m
  | _, _, .nil, _ => by simp
  | _, _, .cons _ hl hs, h => by
    intro e he
    rcases List.mem_cons.1 he with rfl | he
    · rw [← hl]; exact h _ (by simp)
    · exact hs.wide (fun x hx => h x (by simp [hx])) e he
theorem Less.refl : ∀ as : List (List AV), Less as as
  | [] => .nil
  | _ :: as => .cons (Les.refl _) rfl (Less.refl as)
theorem Le.seq {m : Nat} {as bs : List (List AV)} (h : Less as bs) : Le (.seq m as) (.seq m bs) := fun F u k => by
  have hl := h.len
  cases k with
  | seq0 _ ao cap hc =>
    cases h
    exact .seq0 m ao cap hc
  | seq b off cap hm hn hli k h1 hc =>
    rw [hl] at hn hc ⊢
    exact .seq b off cap (h.wide hm) hn hli (h.flat _ _ k) h1 hc
/-- weaker words for slots and memory -/
inductive MLe : Mem → Mem → Prop
  | nil : MLe [] []
  | cons (r : Res) {M M' : Mem} (h : MLe M M') : MLe (r :: M) (r :: M')
  | loc (b : Nat) {cs cs' : List AV} {M M' : Mem} (hc : Les cs cs') (h : MLe M M') : MLe (.loc b cs :: M) (.loc b cs' :: M')
  | drop (r : Res) {M M' : Mem} (h : MLe M M') : MLe (r :: M) M'
theorem MLe.refl : ∀ M : Mem, MLe M M
  | [] => .nil
  | r :: M => .cons r (MLe.refl M)
theorem MLe.none : ∀ M : Mem, MLe M []
  | [] => .nil
  | r :: M => .drop r (MLe.none M)
theorem MLe.blks : ∀ {M M' : Mem}, MLe M M' → (M'.map Res.blk).Sublist (M.map Res.blk)
  | _, _, .nil => List.Sublist.refl _
  | _, _, .cons _ h => h.blks.cons_cons _
  | _, _, .loc _ _ h => h.blks.cons_cons _
  | _, _, .drop _ h => h.blks.cons _
theorem MLe.ok {B : Nat} {F : EH} {w : World} : ∀ {M M' : Mem}, MLe M M' → (∀ r ∈ M, r.Ok B F w) → ∀ r ∈ M', r.Ok B F w
  | _, _, .nil, _ => by simp
  | _, _, .cons r h, k => by
    intro x hx
    rcases List.mem_cons.1 hx with rfl | hx
    · exact k _ (by simp)
    · exact h.ok (fun r hr => k r (by simp [hr])) x hx
  | _, _, .loc (cs := cs) b hc h, k => by
    intro x hx
    rcases List.mem_cons.1 hx with rfl | hx
    · obtain ⟨h1, h2, vs, T, h3, h4, h5⟩ := k (.loc b cs) (by simp)
      exact ⟨h1, h2, vs, T, h3, hc _ _ h4, h5⟩
    · exact h.ok (fun r hr => k r (by simp [hr])) x hx
  | _, _, .drop r h, k => h.ok (fun r hr => k r (by simp [hr]))
theorem far_map {M : Mem} : M.Pairwise Far ↔ (M.map Res.blk).Pairwise (fun a b => a = none ∨ a ≠ b) := by
  rw [List.pairwise_map]; rfl
theorem Inv.le {B : Nat} {F : EH} {M M' Mf : Mem} {w : World} (h : Inv B F (M ++ Mf) w) (hm : MLe M M') : Inv B F (M' ++ Mf) w := by
  refine ⟨h.base, h.fix, fun r hr => ?_, ?_⟩
  · rcases List.mem_append.1 hr with hr | hr
    · exact hm.ok (fun r hr => h.ok r (List.mem_append_left _ hr)) r hr
    · exact h.ok r (List.mem_append_right _ hr)
  · have := h.far
    rw [far_map] at this ⊢
    rw [List.map_append] at this ⊢
    exact this.sublist (List.Sublist.append hm.blks (List.Sublist.refl _))
def SLe (al al' : Sl) : Prop := ∀ t v', al'.lookup t = some v' → ∃ v, al.lookup t = some v ∧ Le v v'
theorem Slots.le {n : Nat} {F : EH} {al al' : Sl} {tmps : Array Value} (h : Slots n F al tmps) (hs : SLe al al') : Slots n F al' tmps :=
  ⟨h.1, fun t v' e => by
    obtain ⟨v, h1, h2⟩ := hs t v' e
    exact ⟨(h.2 t v h1).1, h2 _ _ (h.2 t v h1).2⟩⟩
theorem SLe.nil (al : Sl) : SLe al [] := fun t v' e => by simp at e
theorem SLe.cons {al al' : Sl} {t : Nat} {v v' : AV} (hv : al.lookup t = some v) (h : Le v v') (hs : SLe al al') : SLe al ((t, v') :: al') := fun s u e => by
  simp only [List.lookup_cons] at e
  by_cases q : s = t
  · subst q
    simp at e; subst e
    exact ⟨v, hv, h⟩
  · have : (s == t) = false := by simpa using q
    rw [this] at e
    exact hs s u e
section
variable {P : Program} {al : Sl} {M : Mem} {K : AV → Mem → Prop} {o : Oper}
theorem ACode.le {ro : Option Nat} {n : Nat} {Q : Exit → Sl → Mem → Prop} {c : Code} {al' : Sl} {M' : Mem} (hs : SLe al al') (hm : MLe M M') (h : ACode ro P n c Q al' M') : ACode ro P n c Q al M :=
  fun B F Mf a w hi hsl => h B F Mf a w (hi.le hm) (hsl.le hs)
theorem ACode.perm {ro : Option Nat} {n : Nat} {Q : Exit → Sl → Mem → Prop} {c : Code} {M' : Mem} (hm : M.Perm M') (h : ACode ro P n c Q al M') : ACode ro P n c Q al M :=
  fun B F Mf a w hi hsl => h B F Mf a w (hi.perm (hm.append_right Mf)) hsl
theorem ACall.args {f : FuncId} {vs vs' : List AV} {R : AV → Mem → Prop} (hl : Les vs vs') (h : ACall P f vs' M R) : ACall P f vs M R :=
  ⟨h.ent, fun B F Mf w us hi hv => h.run B F Mf w us hi (hl _ _ hv)⟩
theorem ACall.mem {f : FuncId} {vs : List AV} {M' : Mem} {R : AV → Mem → Prop} (hl : MLe M M') (h : ACall P f vs M' R) : ACall P f vs M R :=
  ⟨h.ent, fun B F Mf w us hi hv => h.run B F Mf w us (hi.le hl) hv⟩
/-- the cells that a value takes -/
def AV.cells : AV → List AV
  | .agg cs => cs
  | .val (.agg a) => a.toList.map AV.val
  | v => [v]
/-- it can lie in cells -/
def AV.flat : AV → Bool
  | .val (.agg a) => a.toList.all (·.oneCell')
  | .val (.tuple _) => false
  | .tup _ => false
  | _ => true
theorem Rels.vals (F : EH) : ∀ vs : List Value, Rels F (vs.map AV.val) vs
  | [] => .nil
  | v :: vs => .cons (.val v) (Rels.vals F vs)
theorem Rel.cells {F : EH} {v : AV} {u : Value} (h : Rel F v u) (hf : v.flat = true) : Rels F v.cells u.cells.toList ∧ Ones u.cells.toList := by
  cases h with
  | val u =>
    cases u with
    | agg a =>
      refine ⟨Rels.vals F a.toList, fun x hx => ?_⟩
      simp only [AV.flat, List.all_eq_true] at hf
      exact hf x (by simpa [Value.cells] using hx)
    | tuple a => simp [AV.flat] at hf
    | _ => exact ⟨.cons (.val _) .nil, by intro x hx; simp [Value.cells] at hx; subst hx; rfl⟩
  | agg h h1 => exact ⟨by simpa [AV.cells, Value.cells] using h, by simpa [Value.cells] using h1⟩
  | tup h => simp [AV.flat] at hf
  | ptr b off => exact ⟨.cons (.ptr b off) .nil, by intro x hx; simp [Value.cells] at hx; subst hx; rfl⟩
  | cptr b off hl h h1 => exact ⟨.cons (.cptr b off hl h h1) .nil, by intro x hx; simp [Value.cells] at hx; subst hx; rfl⟩
  | arr b off k cap hc => exact ⟨.cons (.arr b off k cap hc) .nil, by intro x hx; simp [Value.cells] at hx; subst hx; rfl⟩
  | seq0 m ao cap h => exact ⟨.cons (.seq0 m ao cap h) .nil, by intro x hx; simp [Value.cells] at hx; subst hx; rfl⟩
  | seq b off cap hm hn hl h h1 hc => exact ⟨.cons (.seq b off cap hm hn hl h h1 hc) .nil, by intro x hx; simp [Value.cells] at hx; subst hx; rfl⟩
  | own u h =>
    have e : u.cells.toList = [u] ∧ u.oneCell' = true := by
      obtain ⟨ao, cap, rfl⟩ := h.seq_len
      exact ⟨rfl, rfl⟩
    rw [e.1]
    exact ⟨.cons (.own u h) .nil, by intro x hx; simp at hx; subst hx; exact e.2⟩
  | clo fn h1 h2 => exact ⟨.cons (.clo fn h1 h2) .nil, by intro x hx; simp [Value.cells] at hx; subst hx; rfl⟩
theorem alloc_get {w : World} (o : Obj) (k : Nat) : (w.alloc o).heap[k]? = if k = w.heap.size then some o else w.heap[k]? := by
  show (w.heap.push o)[k]? = _
  rw [Array.getElem?_push]
theorem alloc_below {w : World} (o : Obj) {B : Nat} (hB : B ≤ w.heap.size) : Below B w (w.alloc o) := (Below.refl _ _).alloc hB o
theorem fix_alloc {B : Nat} {F : EH} {M : Mem} {w : World} (hi : Inv B F M w) (o : Obj) : ∀ b i x, F b i = some x → (w.alloc o).cell? ⟨b, i, none⟩ = some x := by
  intro b i x h
  have h1 := hi.fix b i x h
  have hlt := cell_size h1
  rw [World.cell?_of_block (w := w) (by rw [alloc_get, if_neg (by simp; omega)])]
  exact h1
theorem Inv.newLoc {B : Nat} {F : EH} {Mf : Mem} {w : World} (hi : Inv B F (M ++ Mf) w) {cs : List AV} {vs : List Value} (hr : Rels F cs vs) (h1 : Ones vs) (T : TypeId) :
    Inv B F ((.loc w.heap.size cs :: M) ++ Mf) (w.alloc (.cells vs.toArray T)) := by
  refine ⟨by have := hi.base; simp; omega, fix_alloc hi _, fun r hr' => ?_, ?_⟩
  · rw [List.cons_append] at hr'
    rcases List.mem_cons.1 hr' with rfl | hr'
    · exact ⟨hi.base, fun i => hi.dom (Nat.le_refl _), vs, T, by rw [alloc_get, if_pos rfl], hr, h1⟩
    · refine (hi.ok r hr').stay (Ext.refl F) (fun b hb => ⟨?_, fun _ => rfl⟩)
      have := (hi.ok r hr').lt hb
      rw [alloc_get, if_neg (by omega)]
  · rw [List.cons_append, List.pairwise_cons]
    refine ⟨fun r hr' => ?_, hi.far⟩
    right
    intro e
    have := (hi.ok r hr').lt (b := w.heap.size) e.symm
    omega
/-- a new block of cells that never turn -/
def EH.new (F : EH) (b : Nat) (vs : List Value) : EH := fun k i => if k = b then vs[i]? else F k i
theorem EH.new_ext {B : Nat} {F : EH} {M : Mem} {w : World} (hi : Inv B F M w) (vs : List Value) : Ext F (F.new w.heap.size vs) := by
  intro b i x h
  have := cell_size (hi.fix b i x h)
  unfold EH.new
  rw [if_neg (by omega)]
  exact h
theorem EH.new_lies (F : EH) (b : Nat) (vs : List Value) : Lies (F.new b vs) b 0 vs := by
  intro j x h
  simpa [EH.new] using h
theorem Inv.newFix {B : Nat} {F : EH} {M : Mem} {w : World} (hi : Inv B F M w) (vs : List Value) (T : TypeId) : Inv B (F.new w.heap.size vs) M (w.alloc (.cells vs.toArray T)) := by
  refine ⟨by have := hi.base; simp; omega, fun b i x h => ?_, fun r hr' => ?_, hi.far⟩
  · unfold EH.new at h
    split at h
    · rename_i e
      subst e
      rw [cell_block (T := T) (f := (0, 0)) (by rw [alloc_get, if_pos rfl])]
      exact h
    · exact fix_alloc hi _ b i x h
  · refine (hi.ok r hr').stay (EH.new_ext hi vs) (fun b hb => ?_)
    have := (hi.ok r hr').lt hb
    refine ⟨by rw [alloc_get, if_neg (by omega)], fun i => ?_⟩
    unfold EH.new
    rw [if_neg (by omega)]
theorem op_box {x : Operand} {t : TypeId} {v : AV} (ho : o.op = .box t x) (hx : al.ev x = some v) (hf : v.flat = true) (q : ∀ b, K (.ptr b 0) (.loc b v.cells :: M)) : OpT P o al M K := by
  intro n B F Mf a w hi hs ro
  obtain ⟨h1, h2⟩ := (hs.ev hx).cells hf
  have e : (execOp a.eval o).run P w = .ok (.value (.pointer (some ⟨w.heap.size, 0, none⟩))) (w.alloc (.cells (a.eval x).cells.toList.toArray t)) := by
    simp [execOp, ho, Instr.box, newVar, newRow]
  exact wpR_value e ⟨_, _, _, F, rfl, q w.heap.size, .ptr _ _, Ext.refl F, hi.newLoc h1 h2 t, alloc_below _ hi.base⟩
def tyZero (P : Program) (t : TypeId) : Option Value := (P.info? t).bind (·.zero)
theorem tyZero_run {t : TypeId} {z : Value} (h : tyZero P t = some z) (w : World) : (zeroValue t).run P w = .ok z w := by
  unfold tyZero at h
  cases hi : P.info? t with
  | none => simp [hi] at h
  | some i =>
    simp [hi] at h
    simp [zeroValue, typeInfo, hi, h]
theorem op_alloc {t : TypeId} {z : Value} (ho : o.op = .alloc t) (hz : tyZero P t = some z) (hf : (AV.val z).flat = true) (q : ∀ b, K (.ptr b 0) (.loc b (AV.val z).cells :: M)) : OpT P o al M K := by
  intro n B F Mf a w hi hs ro
  obtain ⟨h1, h2⟩ := (Rel.val (F := F) z).cells hf
  have e : (execOp a.eval o).run P w = .ok (.value (.pointer (some ⟨w.heap.size, 0, none⟩))) (w.alloc (.cells z.cells.toList.toArray t)) := by
    simp [execOp, ho, Instr.alloc, tyZero_run hz, newVar, newRow]
  exact wpR_value e ⟨_, _, _, F, rfl, q w.heap.size, .ptr _ _, Ext.refl F, hi.newLoc h1 h2 t, alloc_below _ hi.base⟩
/-- cells written from a place on -/
def setL {α : Type} : List α → Nat → List α → List α
  | l, _, [] => l
  | l, i, x :: xs => setL (l.set i x) (i + 1) xs
theorem Rels.setL {F : EH} : ∀ {xs : List AV} {us : List Value}, Rels F xs us → ∀ {as : List AV} {vs : List Value} (i : Nat), Rels F as vs → Rels F (setL as i xs) (setL vs i us)
  | _, _, .nil, _, _, _, h => h
  | _, _, .cons k ks, _, _, i, h => Rels.setL ks (i + 1) (h.set i k)
theorem setL_len {α : Type} : ∀ (xs l : List α) (i : Nat), (setL l i xs).length = l.length
  | [], _, _ => rfl
  | x :: xs, l, i => by rw [setL, setL_len xs]; simp
theorem setL_one : ∀ (xs l : List Value) (i : Nat), Ones xs → Ones l → Ones (setL l i xs)
  | [], _, _, _, h => h
  | x :: xs, l, i, hx, h => by
    rw [setL]
    refine setL_one xs _ _ (fun v hv => hx v (by simp [hv])) (fun v hv => ?_)
    rcases List.mem_or_eq_of_mem_set hv with h1 | h1
    · exact h v h1
    · rw [h1]; exact hx x (by simp)
theorem setCell_get (w : World) (b i : Nat) (v : Value) (k : Nat) {vs : List Value} {T : TypeId} (hb : w.heap[b]? = some (.cells vs.toArray T (0, 0))) : (w.setCell ⟨b, i, none⟩ v).heap[k]? = if k = b then some (.cells (vs.set i v).toArray T (0, 0)) else w.heap[k]? := by
  simp only [World.setCell, Array.getElem?_modify]
  by_cases e : b = k
  · subst e
    rw [if_pos rfl, if_pos rfl, hb]
    simp
  · rw [if_neg e, if_neg (fun h => e h.symm)]
theorem storeCells_run {b : Nat} {T : TypeId} : ∀ (us : List Value) (w : World) (vs : List Value) (off i : Nat), w.heap[b]? = some (.cells vs.toArray T (0, 0)) → Ones us → off + i + us.length ≤ vs.length →
    ∃ w', (storeCells ⟨b, off, none⟩ us i).run P w = .ok () w' ∧ w'.heap[b]? = some (.cells (setL vs (off + i) us).toArray T (0, 0)) ∧ (∀ k, k ≠ b → w'.heap[k]? = w.heap[k]?) ∧ w'.heap.size = w.heap.size ∧ w'.os = w.os ∧ w'.tape = w.tape ∧ w'.output = w.output
  | [], w, vs, off, i, hb, _, _ => ⟨w, by simp [storeCells], hb, fun _ _ => rfl, rfl, rfl, rfl, rfl⟩
  | u :: us, w, vs, off, i, hb, h1, hl => by
    have e1 : (⟨b, off, none⟩ : Addr).add i = ⟨b, off + i, none⟩ := by unfold Addr.add; split <;> simp_all
    simp only [List.length_cons] at hl
    have hc : w.cell? ⟨b, off + i, none⟩ = some (vs[off + i]'(by omega)) := by rw [cell_block hb, List.getElem?_eq_getElem]
    have hfz : w.frozen? ⟨b, off + i, none⟩ = false := by simp [World.frozen?, hb]
    have hg := setCell_get w b (off + i) u b hb
    rw [if_pos rfl] at hg
    obtain ⟨w', q1, q2, q3, q4, q5, q6, q7⟩ := storeCells_run us (w.setCell ⟨b, off + i, none⟩ u) (vs.set (off + i) u) off (i + 1) hg (fun v hv => h1 v (by simp [hv])) (by simp; omega)
    refine ⟨w', ?_, ?_, fun k hk => ?_, ?_, q5, q6, q7⟩
    · simp only [storeCells, Sem.run_bind, e1, run_store P w _ u _ (h1 u (by simp)), hc, hfz, Bool.false_eq_true, if_false, Result.andThen_ok]
      exact q1
    · rw [setL]; exact q2
    · rw [q3 k hk, setCell_get w b (off + i) u k hb, if_neg hk]
    · rw [q4]; simp [World.setCell]
theorem Inv.store {B : Nat} {F : EH} {Mf : Mem} {w w' : World} (hi : Inv B F (M ++ Mf) w) {i b : Nat} {cs cs' : List AV} (hm : M[i]? = some (.loc b cs)) {vs' : List Value} {T : TypeId} (hb : w'.heap[b]? = some (.cells vs'.toArray T (0, 0))) (hr : Rels F cs' vs') (h1 : Ones vs')
    (hk : ∀ k, k ≠ b → w'.heap[k]? = w.heap[k]?) (hsz : w'.heap.size = w.heap.size) : Inv B F (M.set i (.loc b cs') ++ Mf) w' := by
  have hil : i < M.length := by
    rcases Nat.lt_or_ge i M.length with k | k
    · exact k
    · rw [List.getElem?_eq_none k] at hm; simp at hm
  obtain ⟨hB, hF, _⟩ := hi.loc hm
  have hMi : M[i] = .loc b cs := by rw [List.getElem?_eq_getElem hil] at hm; simpa using hm
  have hset : M.set i (.loc b cs') ++ Mf = (M ++ Mf).set i (.loc b cs') := by rw [List.set_append_left _ _ hil]
  have hfar := hi.far
  refine ⟨by rw [hsz]; exact hi.base, fun c j x h => ?_, fun r hr' => ?_, ?_⟩
  · have hne : c ≠ b := fun e => by subst e; rw [hF j] at h; simp at h
    rw [World.cell?_of_block (w := w) (hk c hne)]
    exact hi.fix c j x h
  · rw [hset] at hr'
    obtain ⟨j, hj, hje⟩ := List.mem_iff_getElem.1 hr'
    rw [List.getElem_set] at hje
    split at hje
    · subst hje
      exact ⟨hB, hF, vs', T, hb, hr, h1⟩
    · rename_i hne
      have hj' : j < (M ++ Mf).length := by simpa using hj
      have hjm : r ∈ M ++ Mf := by rw [← hje]; exact List.getElem_mem hj'
      refine (hi.ok r hjm).stay (Ext.refl F) (fun c hc => ⟨hk c ?_, fun _ => rfl⟩)
      intro e
      subst e
      have hil' : i < (M ++ Mf).length := by simp; omega
      have hi0 : (M ++ Mf)[i] = .loc c cs := by rw [List.getElem_append_left hil]; exact hMi
      rw [List.pairwise_iff_getElem] at hfar
      rcases Nat.lt_or_gt_of_ne hne with k | k
      · have := hfar i j hil' hj' k
        rw [hi0, hje] at this
        rcases this with q | q
        · simp [Res.blk] at q
        · exact q (by rw [hc]; rfl)
      · have := (hfar j i hj' hil' k).symm
        rw [hi0, hje] at this
        rcases this with q | q
        · simp [Res.blk] at q
        · exact q (by rw [hc]; rfl)
  · rw [hset]
    rw [far_map] at hfar ⊢
    have : ((M ++ Mf).set i (.loc b cs')).map Res.blk = (M ++ Mf).map Res.blk := by
      apply List.ext_getElem (by simp)
      intro j h1 h2
      simp only [List.getElem_map, List.getElem_set]
      split
      · rename_i e; subst e
        rw [List.getElem_append_left hil, hMi]; rfl
      · rfl
    rw [this]; exact hfar
theorem op_store {x y : Operand} {t : TypeId} {s b off i : Nat} {v : AV} {cs cs' : List AV} (ho : o.op = .store t x y) (ht : (P.info? t).map (·.size) = some s) (hx : al.ev x = some (.ptr b off)) (hy : al.ev y = some v) (hf : v.flat = true) (hs : v.cells.length = s) (hm : M[i]? = some (.loc b cs)) (hl : off + s ≤ cs.length) (hc : setL cs off v.cells = cs') (q : K (.val undef) (M.set i (.loc b cs'))) : OpT P o al M K := by
  intro n B F Mf a w hi hsl ro
  have h := hsl.ev hx
  generalize he : a.eval x = u at h
  cases h with
  | ptr =>
    obtain ⟨h1, h2⟩ := (hsl.ev hy).cells hf
    obtain ⟨hB, hF, vs, T, hb, hr, h3⟩ := hi.loc hm
    have hlen := hr.len
    have hl1 := h1.len
    obtain ⟨w', q1, q2, q3, q4, q5, q6, q7⟩ := storeCells_run (P := P) (a.eval y).cells.toList w vs off 0 hb h2 (by omega)
    have e : (execOp a.eval o).run P w = .ok .skip w' := by
      obtain ⟨inf, hinf, hsz⟩ := Option.map_eq_some_iff.1 ht
      have hcs : (a.eval y).cells.size = s := by rw [← hs, hl1]; simp
      simp [execOp, ho, he, Instr.storeAt, Instr.sureAddr, storeVar, sizeOf, typeInfo, hinf, hsz, hcs, q1]
    subst hc
    refine wpR_skip e ⟨undef, .val undef, _, F, rfl, q, .val _, Ext.refl F, hi.store hm q2 (h1.setL off hr) (setL_one _ _ _ h2 h3) q3 q4, ⟨q5, q6, q7, by omega, fun k hk => q3 k (by omega)⟩⟩
/-- a function's result -/
def ARes1 (P : Program) (al : Sl) (M : Mem) : ResultVar → AV → Prop
  | .tmp t, v => al.lookup t = some v
  | .cell t T, v => ∃ (b off i : Nat) (cs : List AV), al.lookup t = some (.ptr b off) ∧ M[i]? = some (Res.loc b cs) ∧ ((∃ s, tyAgg P T = some (some s) ∧ v = .agg ((cs.drop off).take s) ∧ off + s ≤ cs.length) ∨ (tyAgg P T = some none ∧ cs[off]? = some v))
def resSem (tmps : Array Value) : ResultVar → Sem Value
  | .tmp t => pure (tmps.getD t undef)
  | .cell a t => do loadVar t (← asAddr (tmps.getD a undef))
theorem ARes1.run {n B : Nat} {F : EH} {Mf : Mem} {a : Act} {w : World} (hi : Inv B F (M ++ Mf) w) (hs : Slots n F al a.tmps) {r : ResultVar} {v : AV} (h : ARes1 P al M r v) :
    ∃ u, Rel F v u ∧ (resSem a.tmps r).run P w = .ok u w := by
  cases r with
  | tmp t =>
    rw [ARes1] at h
    exact ⟨_, (hs.2 t v h).2, rfl⟩
  | cell t T =>
    rw [ARes1] at h
    obtain ⟨b, off, i, cs, h1, hm, h2⟩ := h
    have hr := (hs.2 t _ h1).2
    generalize he : a.tmps.getD t undef = u at hr
    cases hr
    obtain ⟨_, _, vs, T', hb, hr0, h3⟩ := hi.loc hm
    have hln := hr0.len
    rcases h2 with ⟨s, ht, rfl, hsl⟩ | ⟨ht, hc⟩
    · refine ⟨.agg ((vs.drop off).take s).toArray, .agg ((hr0.drop off).take s) (fun v hv => h3 v (List.mem_of_mem_drop (List.mem_of_mem_take hv))), ?_⟩
      have hcell : ∀ j x, ((vs.drop off).take s)[j]? = some x → w.cell? ⟨b, off + j, none⟩ = some x := by
        intro j x hx
        rw [cell_block hb]
        rw [List.getElem?_take] at hx
        split at hx
        · rwa [List.getElem?_drop] at hx
        · simp at hx
      have hload := loadCells_run (P := P) hcell
      rw [show ((vs.drop off).take s).length = s from by simp; omega] at hload
      obtain ⟨a1, a2⟩ := tyAgg_some ht w
      simp [resSem, he, asAddr, loadVar, a1, a2, hload]
    · obtain ⟨u, h4, h5⟩ := hr0.get hc
      refine ⟨u, h5, ?_⟩
      have hcell := cell_block hb off
      rw [h4] at hcell
      obtain ⟨a1, a2⟩ := tyAgg_none ht w
      simp [resSem, he, asAddr, loadVar, a1, hcell]
inductive AResL (P : Program) (al : Sl) (M : Mem) : List ResultVar → List AV → Prop
  | nil : AResL P al M [] []
  | cons {r : ResultVar} {v : AV} {rs : List ResultVar} {vs : List AV} (h : ARes1 P al M r v) (hs : AResL P al M rs vs) : AResL P al M (r :: rs) (v :: vs)
def oneOf : List AV → AV
  | [v] => v
  | vs => .tup vs
theorem AResL.run {n B : Nat} {F : EH} {Mf : Mem} {a : Act} {w : World} (hi : Inv B F (M ++ Mf) w) (hs : Slots n F al a.tmps) : ∀ {rs : List ResultVar} {vs : List AV}, AResL P al M rs vs →
    ∃ us, Rels F vs us ∧ (rs.mapM (resSem a.tmps)).run P w = .ok us w
  | _, _, .nil => ⟨[], .nil, by simp⟩
  | _, _, .cons h k => by
    obtain ⟨u, h1, h2⟩ := ARes1.run (P := P) hi hs h
    obtain ⟨us, h3, h4⟩ := AResL.run hi hs k
    refine ⟨u :: us, .cons h1 h3, ?_⟩
    rw [List.mapM_cons]
    simp only [Sem.run_bind]
    rw [h2]
    simp only [Result.andThen_ok, h4, Sem.run_pure]
theorem results_run {n B : Nat} {F : EH} {Mf : Mem} {a : Act} {w : World} (hi : Inv B F (M ++ Mf) w) (hs : Slots n F al a.tmps) {fn : Func} {vs : List AV} (h : AResL P al M fn.results.toList vs) : ∃ u, Rel F (oneOf vs) u ∧ (results fn a.tmps).run P w = .ok u w := by
  obtain ⟨us, h1, h2⟩ := h.run hi hs
  have hln := h1.len
  have e : results fn a.tmps = (fn.results.mapM (resSem a.tmps) >>= fun vs => pure (if h : vs.size = 1 then vs[0] else .tuple vs)) := by
    unfold results
    congr
  have e2 : (fn.results.mapM (resSem a.tmps)).run P w = .ok us.toArray w := by
    rw [Array.mapM_eq_mapM_toList, Sem.run_map, h2]; rfl
  rw [e, Sem.run_bind, e2]
  simp only [Result.andThen_ok, Sem.run_pure]
  cases h1 with
  | nil => exact ⟨_, .tup .nil, by simp⟩
  | cons k ks =>
    cases ks with
    | nil => exact ⟨_, k, by simp⟩
    | cons k2 ks => exact ⟨_, .tup (.cons k (.cons k2 ks)), by simp⟩
def argSl : Nat → List AV → Sl
  | _, [] => []
  | k, v :: vs => (k, v) :: argSl (k + 1) vs
theorem argSl_get : ∀ (vs : List AV) (k t : Nat) (v : AV), (argSl k vs).lookup t = some v → k ≤ t ∧ vs[t - k]? = some v
  | [], k, t, v, h => by simp [argSl] at h
  | a :: vs, k, t, v, h => by
    simp only [argSl, List.lookup_cons] at h
    by_cases e : t = k
    · subst e
      simp at h; subst h
      simp
    · have : (t == k) = false := by simpa using e
      rw [this] at h
      obtain ⟨h1, h2⟩ := argSl_get vs (k + 1) t v h
      refine ⟨by omega, ?_⟩
      rw [show t - k = (t - (k + 1)) + 1 from by omega]
      simpa using h2
/-- what a body must leave so that the call answers R -/
def Out (P : Program) (fn : Func) (R : AV → Mem → Prop) : Exit → Sl → Mem → Prop
  | .normal, al, M | .ret, al, M => ∃ vs v M', AResL P al M fn.results.toList vs ∧ Le (oneOf vs) v ∧ MLe M M' ∧ R v M'
  | _, _, _ => False
theorem ACall.enter {f : FuncId} {fn : Func} {c : Code} {n : Nat} {args : List AV} {R : AV → Mem → Prop} (hf : P.funcs[f]? = some fn) (hb : fn.body = some c) (hname : (fn.name == "runtime.NumGoroutine") = false) (hn : fn.ntmps = n) (hl : args.length ≤ n)
    (h : ACode none P n c (Out P fn R) (argSl 0 args) M) : ACall P f args M R := by
  refine ⟨enters_of hf hname (by rw [hb]; rfl), fun B F Mf w vs hi hr => ?_⟩
  refine (callsIn_RF (ro := none) (n := 0)).1 (callsIn_of_wp_marks hf hb trivial (Code.wpIn_mono (fun e a' w' hp => ?_) (h B F Mf _ w hi ?_)))
  · have key : ∀ (Ds : List Nat) (w' : World) (F' : EH) (al' : Sl) (M' : Mem), (∃ vs v M'', AResL P al' M' fn.results.toList vs ∧ Le (oneOf vs) v ∧ MLe M' M'' ∧ R v M'') → Ext F F' → Inv B F' (M' ++ (Ds.map spent ++ Mf)) w' → Slots n F' al' a'.tmps → Below B w w' →
        LeavesInM (RF none) 0 P fn a'.tmps (fun e w' => ∃ u v M' F', e = .returned u ∧ R v M' ∧ Rel F' v u ∧ Ext F F' ∧ Inv B F' (M' ++ Mf) w' ∧ Below B w w') (Ds.map mark ++ []) .returning w' := by
      intro Ds
      induction Ds with
      | nil =>
        rintro w' F' al' M' ⟨vs, v, M'', k1, k2, k3, k4⟩ h2 h3 h4 h6
        obtain ⟨u, j1, j2⟩ := results_run (P := P) h3 h4 k1
        exact ⟨u, j2, u, v, M'', F', rfl, k4, k2 _ _ j1, h2, h3.le k3, h6⟩
      | cons D Ds ih =>
        intro w' F' al' M' hq h2 h3 h4 h6
        have h3' : Inv B F' (spent D :: (M' ++ (Ds.map spent ++ Mf))) w' := h3.perm (List.perm_middle (a := spent D) (l₁ := M') (l₂ := Ds.map spent ++ Mf))
        obtain ⟨q1, q2, _⟩ := h3'.objPut (.deferred none)
        obtain ⟨_, _, o, hobj, _, ho⟩ := h3'.ok _ (List.mem_cons_self)
        have ho := ho F' (Ext.refl F')
        subst ho
        exact ⟨by simp, .inl ⟨D, _, rfl, run_takeDeferred hobj, ih _ F' al' M' hq h2 q1 h4 (h6.trans q2)⟩⟩
    obtain ⟨Ds, F', al', M', hq, h2, h3, h4, h5, h6⟩ := hp
    cases e with
    | normal => have := key Ds w' F' al' M' hq h2 h3 h4 h6; rw [← h5] at this; exact this
    | ret => have := key Ds w' F' al' M' hq h2 h3 h4 h6; rw [← h5] at this; exact this
    | exit id => exact hq.elim
    | goto l => exact hq.elim
    | panic c => exact hq.elim
    | outgrown => exact hq.elim
  · have hlen := hr.len
    refine ⟨by simp [hn]; omega, fun t v e => ?_⟩
    obtain ⟨_, e⟩ := argSl_get args 0 t v e
    obtain ⟨u, h1, h2⟩ := hr.get (i := t) (a := v) (by simpa using e)
    have hlt : t < vs.length := by
      rcases Nat.lt_or_ge t vs.length with k | k
      · exact k
      · rw [List.getElem?_eq_none k] at h1; simp at h1
    refine ⟨by omega, ?_⟩
    have : (vs.toArray ++ Array.replicate (fn.ntmps - vs.toArray.size) undef).getD t undef = u := by
      rw [Array.getD_eq_getD_getElem?, Array.getElem?_append_left (by simpa using hlt)]
      simp [h1]
    rw [this]; exact h2
end
end Go.Proofs.Ytflkdojahfmbnaa
