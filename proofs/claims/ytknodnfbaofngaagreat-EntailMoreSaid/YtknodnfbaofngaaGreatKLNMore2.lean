/- Parts of a proof: A logic of trees, part 10: ranges over a function: the loop's record as a resource, a call of yield, an iterator's contract, and the statement.; A logic of trees, part 11: rows: slices whose cells may turn; pure calls that look at a row; boxes that become eternal.; The logic of trees, part 12: loops and joins that keep the slots that they do not turn.; The logic of trees, part 13: a slice of a slice, an element of an array.; The logic of trees, part 16: pointers into rows: index, load, store; appending to a row, its block known; a part of a row as a source; arrays within a variable.; The logic of trees, part 17: calls that take pieces of the memory along, by their places. -/
import Derived.Test.YtknodnfbaofngaaGreatKLNMore1
import Derived.RangeFuncRecord
import Derived.RangeFuncSeq
namespace Go.Proofs.YtknodnfbaofngaaGreat
open Go.RowKit
theorem Yu {P : Program} {al : Sl} {M : Mem} {K : AV → Mem → Prop} {o : Oper} {x : Operand} {t : TypeId} {v : AV} (ho : o.op = .box t x) (hx : al.ev x = some v) (hf : v.flat = true) {cs' : List AV} (hc : v.cells = cs') (q : K (.cptr cs') M) : OpT P o al M K := by
  subst hc
  intro n B F Mf a w hi hs ro
  obtain ⟨hr, h1⟩ := (hs.ev hx).cells hf
  have hn := hi.newFix (a.eval x).cells.toList t
  rw [Array.toArray_toList] at hn
  have hE := EH.new_ext hi (a.eval x).cells.toList
  refine wpR_value (u := .pointer (some ⟨w.heap.size, 0, none⟩)) (by simp [execOp, ho, Instr.box, newVar, newRow]) ⟨_, _, M, _, rfl, q, ?_, hE, hn, alloc_below _ hi.base⟩
  exact .cptr _ 0 (EH.new_lies F w.heap.size _) (hr.mono hE) h1
theorem op_callvb {P : Program} {al : Sl} {M : Mem} {K : AV → Mem → Prop} {o : Oper} {x : Operand} {f : FuncId} {fs cs : List AV} {xs : List Operand} {ts : Array TypeId} {vs vs' : List AV} {p : Prop} (ho : o.op = .call { callee := .value x, args := xs.toArray, argTypes := ts }) (hf : al.ev x = some (.clo (.func f) fs cs)) (hx : xs.mapM al.ev = some vs) (hc : BCall P f vs' p) (hl : Les (fs ++ vs ++ cs) vs') (q : ∀ c : Bool, (c = true ↔ p) → K (.val (.bool c)) M) : OpT P o al M K :=
  op_callvp ho hf hx hc hl (by rintro v M' ⟨⟨c, h, rfl⟩, rfl⟩; rw [List.append_nil]; exact q c h)
abbrev yv (l : Nat) : AV := .val (.func (.yield l) #[] #[])
def YCall (P : Program) (l : Nat) (vs : List AV) (M : Mem) (R : AV → Mem → Prop) : Prop :=
  ∀ (B : Nat) (F : EH) (Mf : Mem) (w : World) (us : List Value), Inv B F (M ++ Mf) w → Rels F vs us → ∀ ro : Option Nat,
    YieldAt (RF ro) 0 P l us.toArray w (fun e w' => ∃ u v M' F', e = .returned u ∧ R v M' ∧ Rel F' v u ∧ Ext F F' ∧ Inv B F' (M' ++ Mf) w' ∧ Below B w w')
section
variable {P : Program} {l : Nat} {vs : List AV} {M : Mem} {R : AV → Mem → Prop}
theorem YieldAt.weak {F : Fence} {m : Nat} {args : Array Value} {W : World} {Q Q' : Ending → World → Prop} (h : YieldAt F m P l args W Q) (hr : ∀ e w, Q e w → Q' e w) : YieldAt F m P l args W Q' := by
  obtain ⟨fn, tmps, assign, body, h1, h2⟩ := h
  exact ⟨fn, tmps, assign, body, h1, h2.mono hr⟩
theorem YCall.mono {R' : AV → Mem → Prop} (h : YCall P l vs M R) (hr : ∀ v M', R v M' → R' v M') : YCall P l vs M R' :=
  fun B F Mf w us hi hv ro => YieldAt.weak (h B F Mf w us hi hv ro) fun _ _ ⟨u, v, M', F', h1, h2, h3⟩ => ⟨u, v, M', F', h1, hr _ _ h2, h3⟩
theorem YCall.frame (h : YCall P l vs M R) (M1 : Mem) : YCall P l vs (M ++ M1) (fun v M' => ∃ M0, M' = M0 ++ M1 ∧ R v M0) :=
  fun B F Mf w us hi hv ro => YieldAt.weak (h B F (M1 ++ Mf) w us (by rw [← List.append_assoc]; exact hi) hv ro) fun _ _ ⟨u, v, M', F', h1, h2, h3, h4, h5, h6⟩ =>
    ⟨u, v, M' ++ M1, F', h1, ⟨M', rfl, h2⟩, h3, h4, by rw [List.append_assoc]; exact h5, h6⟩
theorem YCall.perm {M' : Mem} (h : YCall P l vs M R) (hp : M'.Perm M) : YCall P l vs M' R :=
  fun B F Mf w us hi hv ro => h B F Mf w us (hi.perm (hp.append_right Mf)) hv ro
theorem YCall.swap {M2 : Mem} (h : YCall P l vs M R) : YCall P l vs (M2 ++ M) (fun v M' => ∃ M0, M' = M2 ++ M0 ∧ R v M0) :=
  fun B F Mf w us hi hv ro => by
    have e : (M2 ++ M ++ Mf).Perm (M ++ (M2 ++ Mf)) := by rw [List.append_assoc]; exact List.perm_append_comm_assoc _ _ _
    refine YieldAt.weak (h B F (M2 ++ Mf) w us (hi.perm e) hv ro) fun _ _ ⟨u, v, M', F', h1, h2, h3, h4, h5, h6⟩ => ⟨u, v, M2 ++ M', F', h1, ⟨M', rfl, h2⟩, h3, h4, h5.perm ?_, h6⟩
    rw [List.append_assoc]; exact List.perm_append_comm_assoc _ _ _
theorem YCall.args {vs' : List AV} (hl : Les vs vs') (h : YCall P l vs' M R) : YCall P l vs M R :=
  fun B F Mf w us hi hv ro => h B F Mf w us hi (hl _ _ hv) ro
end
theorem Inv.mid {B : Nat} {F : EH} {A C : Mem} {r : Res} {w : World} : Inv B F (A ++ (r :: C)) w ↔ Inv B F (r :: (A ++ C)) w :=
  ⟨fun h => h.perm (List.perm_middle (a := r) (l₁ := A) (l₂ := C)), fun h => h.perm (List.perm_middle (a := r) (l₁ := A) (l₂ := C)).symm⟩
theorem op_max {P : Program} {al : Sl} {M : Mem} {K : AV → Mem → Prop} {o : Oper} {x y : Operand} {ts : Array TypeId} {k : IntKind} {a b : Int} (ho : o.op = .call { callee := .builtin .max, args := #[x, y], argTypes := ts }) (hx : al.ev x = some (.val (.int k a))) (hy : al.ev y = some (.val (.int k b))) (q : K (.val (.int k (max a b))) M) : OpT P o al M K :=
  OpT.plain fun n B F Mf ac w hi hs => ⟨_, _, by
    simp [execOp, ho, resolve, invoke, builtin, Builtin.max_, Wl hs hx, Wl hs hy, Builtin.max2]
    split <;> omega, q, .val _⟩
section
variable {P : Program} {al : Sl} {M : Mem} {K : AV → Mem → Prop} {o : Oper}
theorem get_lt {α : Type} {l : List α} {i : Nat} {x : α} (h : l[i]? = some x) : i < l.length := (List.getElem?_eq_some_iff.1 h).1
end
def Meets {σ : Type} (alx : σ → Sl) (Mx : σ → Mem) (I : σ → Prop) (al : Sl) (M : Mem) : Prop := ∃ x, I x ∧ SLe al (alx x) ∧ MLe M (Mx x)
theorem c_join {ro : Option Nat} {P : Program} {n : Nat} {ks : List Kont} {Q : Exit → Sl → Mem → Prop} {c c0 : Code} {al : Sl} {M : Mem} {σ : Type} (alx : σ → Sl) (Mx : σ → Mem) (I : σ → Prop) (h : ACode ro P n c (after ro P n [.lp (Meets alx Mx I)] (after ro P n (.code c0 :: ks) Q)) al M) (k : ∀ x, I x → AGo ro P n (.code c0 :: ks) Q (alx x) (Mx x)) : ACode ro P n c (after ro P n (.code c0 :: ks) Q) al M := by
  refine ACode.mono h ?_
  intro e al M he
  cases e with
  | normal =>
    obtain ⟨x, h1, h2, h3⟩ := he
    exact ACode.le h2 h3 (k x h1)
  | exit id => exact he
  | goto l => exact he
  | ret => exact he
  | panic c => exact he
  | outgrown => exact he
theorem c_retj {ro : Option Nat} {P : Program} {n : Nat} {ks ks' : List Kont} {Q : Exit → Sl → Mem → Prop} {al : Sl} {M : Mem} (h : Q .ret al M) : ACode ro P n .ret (after ro P n ks' (after ro P n ks Q)) al M := Ya (by rw [after_ret]; exact h)
inductive Drops (ds : List Nat) : Sl → Sl → Prop
  | nil : Drops ds [] []
  | skip {t : Nat} {v : AV} {al al' : Sl} (h : ds.contains t = true) (k : Drops ds al al') : Drops ds ((t, v) :: al) al'
  | keep {t : Nat} {v : AV} {al al' : Sl} (h : ds.contains t = false) (k : Drops ds al al') : Drops ds ((t, v) :: al) ((t, v) :: al')
theorem Drops.at {ds : List Nat} {al al' : Sl} (h : Drops ds al al') : ∀ t, (ds.contains t = false → al.lookup t = al'.lookup t) ∧ (ds.contains t = true → al'.lookup t = none) := by
  induction h with
  | nil => intro t; simp
  | @skip t v al al' h k ih =>
    intro s
    refine ⟨fun hs => ?_, (ih s).2⟩
    have : (s == t) = false := by
      by_cases e : s = t
      · subst e; rw [h] at hs; cases hs
      · simpa using e
    simp only [List.lookup_cons, this]
    exact (ih s).1 hs
  | @keep t v al al' h k ih =>
    intro s
    constructor
    · intro hs
      simp only [List.lookup_cons]
      cases (s == t) with
      | true => rfl
      | false => exact (ih s).1 hs
    · intro hs
      have : (s == t) = false := by
        by_cases e : s = t
        · subst e; rw [h] at hs; cases hs
        · simpa using e
      simp only [List.lookup_cons, this]
      exact (ih s).2 hs
theorem Drops.sle {ds : List Nat} {al al' : Sl} (h : Drops ds al al') : SLe al al' := fun t v e => by
  cases q : ds.contains t with
  | true => rw [((h.at t).2 q)] at e; cases e
  | false => exact ⟨v, by rw [(h.at t).1 q]; exact e, Le.refl _⟩
theorem SLe.app {al a b : Sl} (ha : SLe al a) (hb : SLe al b) : SLe al (a ++ b) := by
  intro t v e
  have e2 : List.lookup t (a ++ b) = (List.lookup t a).or (List.lookup t b) := List.lookup_append
  rw [e2] at e
  cases q : List.lookup t a with
  | some u => rw [q] at e; simp at e; subst e; exact ha t u q
  | none => rw [q] at e; simp at e; exact hb t v e
section
variable {ro : Option Nat} {P : Program} {n : Nat} {ks : List Kont} {Q : Exit → Sl → Mem → Prop} {al al' : Sl} {M : Mem} {σ : Type}
theorem Wg {c : Code} (ds : List Nat) (chg : σ → Sl) (Mx : σ → Mem) (I : σ → Prop) (μ : σ → Nat) (x0 : σ) (hd : Drops ds al al') (h0 : I x0) (hs : SLe al (chg x0)) (hm : MLe M (Mx x0))
    (h : ∀ x, I x → ACode ro P n c (after ro P n (.lp (Back (fun x => chg x ++ al') Mx I μ (μ x)) :: ks) Q) (chg x ++ al') (Mx x)) : ACode ro P n (.loop c) (after ro P n ks Q) al M :=
  c_loop (fun x => chg x ++ al') Mx I μ x0 h0 (hs.app hd.sle) hm h
theorem Xl {c : Code} (ds : List Nat) (chg : σ → Sl) (I : σ → Prop) (μ : σ → Nat) (x0 : σ) (hd : Drops ds al al') (h0 : I x0) (hs : SLe al (chg x0))
    (h : ∀ x, I x → ACode ro P n c (after ro P n (.lp (Back (fun x => chg x ++ al') (fun _ => M) I μ (μ x)) :: ks) Q) (chg x ++ al') M) : ACode ro P n (.loop c) (after ro P n ks Q) al M :=
  c_loop (fun x => chg x ++ al') (fun _ => M) I μ x0 h0 (hs.app hd.sle) (MLe.refl _) h
theorem c_joink {c c0 : Code} (ds : List Nat) (chg : σ → Sl) (Mx : σ → Mem) (I : σ → Prop) (_ : Drops ds al al') (h : ACode ro P n c (after ro P n [.lp (Meets (fun x => chg x ++ al') Mx I)] (after ro P n (.code c0 :: ks) Q)) al M) (k : ∀ x, I x → AGo ro P n (.code c0 :: ks) Q (chg x ++ al') (Mx x)) : ACode ro P n c (after ro P n (.code c0 :: ks) Q) al M :=
  c_join (fun x => chg x ++ al') Mx I h k
theorem c_joinkm {c c0 : Code} (ds : List Nat) (chg : σ → Sl) (I : σ → Prop) (_ : Drops ds al al') (h : ACode ro P n c (after ro P n [.lp (Meets (fun x => chg x ++ al') (fun _ => M) I)] (after ro P n (.code c0 :: ks) Q)) al M) (k : ∀ x, I x → AGo ro P n (.code c0 :: ks) Q (chg x ++ al') M) : ACode ro P n c (after ro P n (.code c0 :: ks) Q) al M :=
  c_join (fun x => chg x ++ al') (fun _ => M) I h k
end
section
variable {P : Program} {o : Oper} {al : Sl} {M : Mem} {K : AV → Mem → Prop}
theorem Rel.cap {F : EH} {m : Nat} {es : List (List AV)} {u : Value} (h : Rel F (.seq m es) u) : ∃ ao cap, u = .slice ao es.length cap ∧ es.length ≤ cap := by
  cases h with
  | seq0 _ ao cap hc => exact ⟨ao, cap, rfl, by simp⟩
  | seq b off cap hm hn hl h h1 hc => exact ⟨_, cap, rfl, hc⟩
theorem op_cut_of {x : Operand} {t : TypeId} {m l k : Nat} {v : AV} {es : List (List AV)} {lo hi mx : Option Operand} (ho : o.op = .slice t x lo hi mx) (hx : al.ev x = some v) (hv : IsSeq v m es) (hlk : l ≤ k) (hk : k ≤ es.length)
    (hr : ∀ (n : Nat) (F : EH) (a : Act) (w : World) (ao : Option Addr) (cap : Nat), Slots n F al a.tmps → es.length ≤ cap → (Instr.sliceAt t (.slice ao es.length cap) (lo.map a.eval) (hi.map a.eval) (mx.map a.eval)).run P w = .ok (.slice (if cap = l then ao else ao.map (·.add (l * m))) (k - l) (cap - l)) w)
    (q : K (.seq m ((es.take k).drop l)) M) : OpT P o al M K := by
  intro n B F Mf a w hi' hsl ro
  have hrel := hv.rel (hsl.ev hx)
  obtain ⟨ao, cap, hu, hcap⟩ := hrel.cap
  obtain ⟨ao', cap', hu', hmax, hsub⟩ := hrel.sub hlk hk
  rw [hu] at hu'
  simp only [Value.slice.injEq, true_and] at hu'
  obtain ⟨rfl, rfl⟩ := hu'
  refine wpR_value (w' := w) (by simp [execOp, ho, hu, hr n F a w ao cap hsl hcap]) ⟨_, _, _, F, rfl, q, hsub hcap, Ext.refl F, hi', Below.refl _ _⟩
theorem ev_int {n : Nat} {F : EH} {a : Act} {x : Operand} {ik : IntKind} {j : Int} (hs : Slots n F al a.tmps) (h : al.ev x = some (.val (.int ik j))) : a.eval x = .int ik j := Wl hs h
theorem op_cuth {x hi : Operand} {t e : TypeId} {m k : Nat} {v : AV} {es : List (List AV)} {k2 : IntKind} {b : Int} (ho : o.op = .slice t x none (some hi) none) (ht : tyElem P t = some (e, m)) (hx : al.ev x = some v) (hv : IsSeq v m es) (h2 : al.ev hi = some (.val (.int k2 b))) (hb : b = k) (hk : k ≤ es.length)
    (q : K (.seq m (es.take k)) M) : OpT P o al M K :=
  op_cut_of (l := 0) (k := k) ho hx hv (Nat.zero_le _) hk (fun n F ac w ao cap hs hc => by
    obtain ⟨hund, inf, hinf, rfl⟩ := tyElem_run ht
    have e2 := ev_int hs h2
    subst hb
    have c1 : k ≤ cap := by omega
    simp [Instr.sliceAt, Instr.slice, underlying, hund, Instr.sliceBounds, Instr.sliceBound, asIntOf, sizeOf, typeInfo, hinf, e2, c1]) (by simpa using q)
theorem Xg {x y : Operand} {t : TypeId} {ik : IntKind} {i : Nat} {j : Int} {s : ByteArray} {b : UInt8} (ho : o.op = .index t x y) (ht : P.underlying t = some .string) (hx : al.ev x = some (.val (.string s))) (hy : al.ev y = some (.val (.int ik j))) (hj : j = i) (hc : s[i]? = some b) (q : K (.val (.int .u8 b.toNat)) M) : OpT P o al M K :=
  OpT.plain fun n B F Mf ac w hi hs => by
    have h1 : ac.eval x = .string s := Wl hs hx
    have h2 := ev_int hs hy
    refine ⟨.int .u8 b.toNat, _, ?_, q, .val _⟩
    subst hj
    simp [execOp, ho, h1, h2, Instr.index, asIntOf, underlying, ht, hc]
end
abbrev rowv (g n cap : Nat) : Value := .slice (some ⟨g, 0, none⟩) n cap
theorem Inv.put {B : Nat} {F : EH} {M Mf : Mem} {w w' : World} {i b : Nat} {r0 r1 : Res} (hi : Inv B F (M ++ Mf) w) (hm : M[i]? = some r0) (hb0 : r0.blk = some b) (hb1 : r1.blk = some b) (hF : ∀ j, F b j = none) (hr1 : r1.Ok B F w') (hk : ∀ k, k ≠ b → w'.heap[k]? = w.heap[k]?) (hsz : w'.heap.size = w.heap.size) : Inv B F (M.set i r1 ++ Mf) w' := by
  have hil := get_lt hm
  have hi2 := hi.perm ((perm_at hm).append_right Mf)
  rw [List.cons_append] at hi2
  have hfar := hi2.far
  rw [List.pairwise_cons] at hfar
  have h : Inv B F (r1 :: (M.eraseIdx i ++ Mf)) w' := by
    refine ⟨by rw [hsz]; exact hi.base, fun c j x h => ?_, fun r hr => ?_, List.pairwise_cons.2 ⟨fun r hr => ?_, hfar.2⟩⟩
    · have hne : c ≠ b := fun e => by subst e; rw [hF j] at h; simp at h
      rw [World.cell?_of_block (w := w) (hk c hne)]
      exact hi.fix c j x h
    · rcases List.mem_cons.1 hr with rfl | hr
      · exact hr1
      · refine (hi2.ok r (List.mem_cons_of_mem _ hr)).stay (Ext.refl F) (fun c hc => ⟨hk c ?_, fun _ => rfl⟩)
        intro e
        subst e
        rcases hfar.1 r hr with k | k
        · rw [hb0] at k; simp at k
        · exact k (by rw [hb0, hc])
    · right
      rw [hb1]
      rcases hfar.1 r hr with k | k
      · rw [hb0] at k; simp at k
      · rw [hb0] at k; exact k
  refine h.perm ?_
  rw [← List.cons_append]
  exact ((perm_set _ hil).append_right Mf).symm
structure RowAt (B : Nat) (F : EH) (w : World) (e : TypeId) (m g n cap : Nat) (es : List (List AV)) (cur : Array Value) : Prop where
  len : n = es.length
  ge : B ≤ g
  no : ∀ i, F g i = none
  wid : ∀ x ∈ es, x.length = m
  at_ : w.heap[g]? = some (.cells cur e (0, 0))
  fit : n ≤ cap
  max : cap ≤ maxLen
  siz : cur.size = cap * m
  rel : Rels F es.flatten (cur.toList.take (n * m))
  one : Ones (cur.toList.take (n * m))
theorem Res.Ok.row {B : Nat} {F : EH} {w : World} {e : TypeId} {m g n cap : Nat} {es : List (List AV)} (h : (Res.row e m (rowv g n cap) es).Ok B F w) : ∃ cur, RowAt B F w e m g n cap es cur := by
  obtain ⟨xs, hown, hslack, hrx, hox, hwx⟩ := h
  have hn := hown.1
  rcases hown.2 with ⟨q, _⟩ | ⟨g', cap', cur, q, hbg, hg, hnc, hcm, hcs, htake⟩
  · simp at q
  · simp only [Value.slice.injEq, Option.some.injEq, Addr.mk.injEq, and_true] at q
    obtain ⟨rfl, rfl, rfl⟩ := q
    refine ⟨cur, rfl, hbg, fun i => hslack g i rfl, hwx, hg, hnc, hcm, hcs, ?_, ?_⟩ <;> rw [htake] <;> assumption
theorem RowAt.ok {B : Nat} {F : EH} {w : World} {e : TypeId} {m g n cap : Nat} {es : List (List AV)} {cur : Array Value} (h : RowAt B F w e m g n cap es cur) : (Res.row e m (rowv g n cap) es).Ok B F w := by
  obtain ⟨h1, h2, h3, h4, h5, h6, h7, h8, h9, h10⟩ := h
  subst h1
  refine ⟨cur.toList.take (es.length * m), ⟨?_, .inr ⟨g, cap, cur, rfl, h2, h5, h6, h7, h8, rfl⟩⟩, fun g' i hg => ?_, h9, h10, h4⟩
  · rw [List.length_take]
    have : es.length * m ≤ cap * m := Nat.mul_le_mul_right _ h6
    have h8' : cur.toList.length = cap * m := h8
    omega
  · simp [Value.ownBlock] at hg; subst hg; exact h3 i
theorem RowAt.cell {B : Nat} {F : EH} {w : World} {e : TypeId} {m g n cap : Nat} {es : List (List AV)} {cur : Array Value} (h : RowAt B F w e m g n cap es cur) {j : Nat} (hj : j < n * m) : w.cell? ⟨g, j, none⟩ = (cur.toList.take (n * m))[j]? := by
  unfold World.cell?
  simp [h.at_, hj]
section
variable {P : Program} {al : Sl} {M : Mem} {K : AV → Mem → Prop} {o : Oper}
end
def pick : List Nat → Mem → Option (Mem × Mem)
  | [], M => some ([], M)
  | i :: is, M => match M[i]? with
    | none => none
    | some r => match pick is (M.eraseIdx i) with
      | none => none
      | some p => some (r :: p.1, p.2)
theorem pick_perm : ∀ {is : List Nat} {M M1 M2 : Mem}, pick is M = some (M1, M2) → M.Perm (M1 ++ M2)
  | [], M, M1, M2, h => by simp [pick] at h; obtain ⟨rfl, rfl⟩ := h; exact .refl _
  | i :: is, M, M1, M2, h => by
    rw [pick] at h
    split at h
    · cases h
    · rename_i r hr
      split at h
      · cases h
      · rename_i p hp
        simp only [Option.some.injEq, Prod.mk.injEq] at h
        obtain ⟨rfl, rfl⟩ := h
        exact (perm_at hr).trans ((pick_perm (M1 := p.1) (M2 := p.2) (by rw [hp])).cons _)
abbrev KCall (P : Program) (f : FuncId) (vs : List AV) (M : Mem) (r : AV) : Prop := ACall P f vs M (fun v M' => v = r ∧ M' = M)
abbrev KBCall (P : Program) (f : FuncId) (vs : List AV) (M : Mem) (p : Prop) : Prop := ACall P f vs M (fun v M' => (∃ c : Bool, (c = true ↔ p) ∧ v = .val (.bool c)) ∧ M' = M)
section
variable {P : Program} {al : Sl} {M : Mem} {K : AV → Mem → Prop} {o : Oper}
theorem op_callat {f : FuncId} {xs : List Operand} {ts : Array TypeId} {vs vs' : List AV} (is : List Nat) {M1 M2 : Mem} {R : AV → Mem → Prop} (ho : o.op = .call { callee := .value (.func f), args := xs.toArray, argTypes := ts }) (hx : xs.mapM al.ev = some vs) (hp : pick is M = some (M1, M2)) (hc : ACall P f vs' M1 R) (hl : Les vs vs') (q : ∀ v M', R v M' → K v (M' ++ M2)) : OpT P o al M K :=
  op_callg ho hx hc hl (pick_perm hp) q
theorem op_callvat {x : Operand} {f : FuncId} {fs cs : List AV} {xs : List Operand} {ts : Array TypeId} {vs vs' : List AV} (is : List Nat) {M1 M2 : Mem} {R : AV → Mem → Prop} (ho : o.op = .call { callee := .value x, args := xs.toArray, argTypes := ts }) (hf : al.ev x = some (.clo (.func f) fs cs)) (hx : xs.mapM al.ev = some vs) (hp : pick is M = some (M1, M2)) (hc : ACall P f vs' M1 R) (hl : Les (fs ++ vs ++ cs) vs') (q : ∀ v M', R v M' → K v (M' ++ M2)) : OpT P o al M K :=
  op_callvg ho hf hx hc hl (pick_perm hp) q
theorem OpT.kept {M' : Mem} (hp : M.Perm M') (h : OpT P o al M (fun v M2 => K v M ∧ M2 = M')) : OpT P o al M K := by
  intro n B F Mf a w hi hs ro
  refine Oper.wpIn_mono ?_ (h n B F Mf a w hi hs ro)
  rintro a' w' ⟨u, v, M2, F', h1, ⟨h2, rfl⟩, h3, h4, h5, h6⟩
  exact ⟨u, v, M, F', h1, h2, h3, h4, h5.perm (hp.symm.append_right Mf), h6⟩
theorem Wq {f : FuncId} {xs : List Operand} {ts : Array TypeId} {vs vs' : List AV} (is : List Nat) {M1 M2 : Mem} {r : AV} (ho : o.op = .call { callee := .value (.func f), args := xs.toArray, argTypes := ts }) (hx : xs.mapM al.ev = some vs) (hp : pick is M = some (M1, M2)) (hc : KCall P f vs' M1 r) (hl : Les vs vs') (q : K r M) : OpT P o al M K :=
  OpT.kept (pick_perm hp) (op_callat is ho hx hp hc hl (by rintro v M' ⟨rfl, rfl⟩; exact ⟨q, rfl⟩))
theorem op_callkb {f : FuncId} {xs : List Operand} {ts : Array TypeId} {vs vs' : List AV} (is : List Nat) {M1 M2 : Mem} {p : Prop} (ho : o.op = .call { callee := .value (.func f), args := xs.toArray, argTypes := ts }) (hx : xs.mapM al.ev = some vs) (hp : pick is M = some (M1, M2)) (hc : KBCall P f vs' M1 p) (hl : Les vs vs') (q : ∀ c : Bool, (c = true ↔ p) → K (.val (.bool c)) M) : OpT P o al M K :=
  OpT.kept (pick_perm hp) (op_callat is ho hx hp hc hl (by rintro v M' ⟨⟨c, hz, rfl⟩, rfl⟩; exact ⟨q c hz, rfl⟩))
theorem Le.sle {a : Addr} {n n' c c' : Nat} (h : n = n') (k : c = c') : Le (.val (.slice (some a) n c)) (.val (.slice (some a) n' c')) := by rw [h, k]; exact Le.refl _
theorem MLe.pre : ∀ M M2 : Mem, MLe (M ++ M2) M
  | [], _ => MLe.none _
  | r :: M, M2 => .cons r (MLe.pre M M2)
theorem MLe.of_eq {M M' : Mem} (h : M = M') : MLe M M' := by rw [h]; exact MLe.refl _
inductive IsPtr : AV → Prop
  | m (b off : Nat) : IsPtr (.ptr b off)
  | c (cs : List AV) : IsPtr (.cptr cs)
theorem IsPtr.rel {v : AV} (h : IsPtr v) {F : EH} {u : Value} (hr : Rel F v u) : ∃ a, u = .pointer (some a) := by
  cases h <;> cases hr <;> exact ⟨_, rfl⟩
end
end Go.Proofs.YtknodnfbaofngaaGreat
