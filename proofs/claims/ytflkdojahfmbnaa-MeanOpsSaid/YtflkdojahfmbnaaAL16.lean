/- The logic of trees, part 16: pointers into rows: index, load, store; appending to a row, its block known; a part of a row as a source; arrays within a variable. -/
import Derived.Test.YtflkdojahfmbnaaAL13
namespace Go.Proofs.Ytflkdojahfmbnaa
open Go.RowKit
/-- a row that isn't nil -/
abbrev rowv (g n cap : Nat) : Value := .slice (some ⟨g, 0, none⟩) n cap
theorem addr_add0' (b off j : Nat) : (⟨b, off, none⟩ : Addr).add j = ⟨b, off + j, none⟩ := by unfold Addr.add; split <;> simp_all
theorem Inv.put {B : Nat} {F : EH} {M Mf : Mem} {w w' : World} {i b : Nat} {r0 r1 : Res} (hi : Inv B F (M ++ Mf) w) (hm : M[i]? = some r0) (hb0 : r0.blk = some b) (hb1 : r1.blk = some b) (hF : ∀ j, F b j = none) (hr1 : r1.Ok B F w') (hk : ∀ k, k ≠ b → w'.heap[k]? = w.heap[k]?) (hsz : w'.heap.size = w.heap.size) : Inv B F (M.set i r1 ++ Mf) w' := by
  have hil := get_lt hm
  have hi2 := hi.perm ((perm_at hm).append_right Mf)
  rw [List.cons_append] at hi2
  have hfar := hi2.far
  rw [List.pairwise_cons] at hfar
  have h : Inv B F (r1 :: (M.eraseIdx i ++ Mf)) w' := by
    refine ⟨by rw [hsz]; exact hi.base, fun c j x h => ?_, fun r hr => ?_, List.pairwise_cons.2 ⟨fun r hr => ?_, hfar.2⟩⟩
    · have hne : c ≠ b := fun e => by subst e; rw [hF j] at h; simp at h
      rw [World.cell?_of_block (w := w) (hk c hne)]
      exact hi.fix c j x h
    · rcases List.mem_cons.1 hr with rfl | hr
      · exact hr1
      · refine (hi2.ok r (List.mem_cons_of_mem _ hr)).stay (Ext.refl F) (fun c hc => ⟨hk c ?_, fun _ => rfl⟩)
        intro e
        subst e
        rcases hfar.1 r hr with k | k
        · rw [hb0] at k; simp at k
        · exact k (by rw [hb0, hc])
    · right
      rw [hb1]
      rcases hfar.1 r hr with k | k
      · rw [hb0] at k; simp at k
      · rw [hb0] at k; exact k
  refine h.perm ?_
  rw [← List.cons_append]
  exact ((perm_set _ hil).append_right Mf).symm
/-- what is known of a row -/
structure RowAt (B : Nat) (F : EH) (w : World) (e : TypeId) (m g n cap : Nat) (es : List (List AV)) (cur : Array Value) : Prop where
  len : n = es.length
  ge : B ≤ g
  no : ∀ i, F g i = none
  wid : ∀ x ∈ es, x.length = m
  at_ : w.heap[g]? = some (.cells cur e (0, 0))
  fit : n ≤ cap
  max : cap ≤ maxLen
  siz : cur.size = cap * m
  rel : Rels F es.flatten (cur.toList.take (n * m))
  one : Ones (cur.toList.take (n * m))
theorem Res.Ok.row {B : Nat} {F : EH} {w : World} {e : TypeId} {m g n cap : Nat} {es : List (List AV)} (h : (Res.row e m (rowv g n cap) es).Ok B F w) : ∃ cur, RowAt B F w e m g n cap es cur := by
  obtain ⟨xs, hown, hslack, hrx, hox, hwx⟩ := h
  have hn := hown.1
  rcases hown.2 with ⟨q, _⟩ | ⟨g', cap', cur, q, hbg, hg, hnc, hcm, hcs, htake⟩
  · simp at q
  · simp only [Value.slice.injEq, Option.some.injEq, Addr.mk.injEq, and_true] at q
    obtain ⟨rfl, rfl, rfl⟩ := q
    refine ⟨cur, rfl, hbg, fun i => hslack g i rfl, hwx, hg, hnc, hcm, hcs, ?_, ?_⟩ <;> rw [htake] <;> assumption
theorem RowAt.ok {B : Nat} {F : EH} {w : World} {e : TypeId} {m g n cap : Nat} {es : List (List AV)} {cur : Array Value} (h : RowAt B F w e m g n cap es cur) : (Res.row e m (rowv g n cap) es).Ok B F w := by
  obtain ⟨h1, h2, h3, h4, h5, h6, h7, h8, h9, h10⟩ := h
  subst h1
  refine ⟨cur.toList.take (es.length * m), ⟨?_, .inr ⟨g, cap, cur, rfl, h2, h5, h6, h7, h8, rfl⟩⟩, fun g' i hg => ?_, h9, h10, h4⟩
  · rw [List.length_take]
    have : es.length * m ≤ cap * m := Nat.mul_le_mul_right _ h6
    have h8' : cur.toList.length = cap * m := h8
    omega
  · simp [Value.ownBlock] at hg; subst hg; exact h3 i
theorem Inv.rowAt {B : Nat} {F : EH} {M Mf : Mem} {w : World} {i : Nat} {e : TypeId} {m g n cap : Nat} {es : List (List AV)} (hi : Inv B F (M ++ Mf) w) (hm : M[i]? = some (.row e m (rowv g n cap) es)) : ∃ cur, RowAt B F w e m g n cap es cur :=
  (hi.ok _ (List.mem_append_left _ (List.mem_of_getElem? hm))).row
theorem RowAt.cell {B : Nat} {F : EH} {w : World} {e : TypeId} {m g n cap : Nat} {es : List (List AV)} {cur : Array Value} (h : RowAt B F w e m g n cap es cur) {j : Nat} (hj : j < n * m) : w.cell? ⟨g, j, none⟩ = (cur.toList.take (n * m))[j]? := by
  unfold World.cell?
  simp [h.at_, hj]
theorem flat_at {m : Nat} {es : List (List AV)} (hw : ∀ x ∈ es, x.length = m) {k : Nat} {cs : List AV} (hk : es[k]? = some cs) (f : Nat) : (es.flatten.drop (k * m)).take m = cs ∧ (f < m → es.flatten[k * m + f]? = cs[f]?) := by
  have h1 : (es.drop k) = cs :: es.drop (k + 1) := by
    obtain ⟨h, rfl⟩ := List.getElem?_eq_some_iff.1 hk
    exact List.drop_eq_getElem_cons h
  have hl : cs.length = m := hw _ (List.mem_of_getElem? hk)
  have h2 := flat_drop hw k
  constructor
  · rw [h2, h1, List.flatten_cons, ← hl, List.take_left]
  · intro hf
    rw [← List.getElem?_drop, h2, h1, List.flatten_cons, List.getElem?_append_left (by omega)]
section
variable {P : Program} {al : Sl} {M : Mem} {K : AV → Mem → Prop} {o : Oper}
theorem op_index_row {x y : Operand} {t e : TypeId} {ik : IntKind} {m i g n cap k : Nat} {j : Int} {es : List (List AV)} (ho : o.op = .indexAddr t x y) (ht : tyElem P t = some (e, m)) (hx : al.ev x = some (.val (rowv g n cap))) (hm : M[i]? = some (.row e m (rowv g n cap) es)) (hy : al.ev y = some (.val (.int ik j))) (hj : j = k) (hlt : k < es.length) (q : K (.ptr g (k * m)) M) : OpT P o al M K :=
  OpT.plain fun n' B F Mf ac w hi hs => by
    obtain ⟨cur, hr⟩ := hi.rowAt hm
    obtain ⟨hu, inf, hinf, rfl⟩ := tyElem_run ht
    have hl := hr.len
    subst hj
    refine ⟨.pointer (some ⟨g, k * inf.size, none⟩), _, ?_, q, .ptr _ _⟩
    have e1 : (⟨g, 0, none⟩ : Addr).add (k * inf.size) = ⟨g, k * inf.size, none⟩ := by rw [addr_add0', Nat.zero_add]
    simp [execOp, ho, ev_val hs hx, ev_val hs hy, Instr.indexAt, asIntOf, underlying, hu, sizeOf, typeInfo, hinf, e1]
    omega
theorem op_load_row {x : Operand} {t e : TypeId} {m i g n cap off k : Nat} {cs : List AV} {es : List (List AV)} (ho : o.op = .load t x) (ht : tyAgg P t = some (some m)) (hx : al.ev x = some (.ptr g off)) (hm : M[i]? = some (.row e m (rowv g n cap) es)) (hoff : off = k * m) (hk : es[k]? = some cs) (q : K (.agg cs) M) : OpT P o al M K :=
  OpT.plain fun n' B F Mf ac w hi hs => by
    have h := hs.ev hx
    generalize he : ac.eval x = u at h
    cases h with
    | ptr =>
      obtain ⟨cur, hr⟩ := hi.rowAt hm
      have hl : cs.length = m := hr.wid _ (List.mem_of_getElem? hk)
      have hrel := ((hr.rel.drop off).take m)
      subst hoff
      rw [(flat_at hr.wid hk 0).1] at hrel
      have hln := hrel.len
      have hkn := get_lt hk
      have hkm : k * m + m ≤ n * m := by
        have : (k + 1) * m ≤ n * m := Nat.mul_le_mul_right _ (by rw [hr.len]; omega)
        rw [Nat.add_mul] at this; omega
      refine ⟨.agg (((cur.toList.take (n * m)).drop (k * m)).take m).toArray, _, ?_, q, .agg hrel (fun v hv => hr.one v (List.mem_of_mem_drop (List.mem_of_mem_take hv)))⟩
      have hcell : ∀ j x, (((cur.toList.take (n * m)).drop (k * m)).take m)[j]? = some x → w.cell? ⟨g, k * m + j, none⟩ = some x := by
        intro j x hx
        rw [List.getElem?_take] at hx
        split at hx
        · rename_i hjm
          rw [hr.cell (by omega)]
          rwa [List.getElem?_drop] at hx
        · simp at hx
      have hload := loadCells_run (P := P) hcell
      rw [← hln, hl] at hload
      obtain ⟨a1, a2⟩ := tyAgg_some ht w
      simp only [execOp, ho, he, Instr.loadAt, Instr.sureAddr, loadVar, Sem.run_bind, Sem.run_pure, Result.andThen_ok, a1, a2, hload, if_true]
theorem op_load_row1 {x : Operand} {t e : TypeId} {m i g n cap off k f : Nat} {c : AV} {cs : List AV} {es : List (List AV)} (ho : o.op = .load t x) (ht : tyAgg P t = some none) (hx : al.ev x = some (.ptr g off)) (hm : M[i]? = some (.row e m (rowv g n cap) es)) (hoff : off = k * m + f) (hk : es[k]? = some cs) (hf : cs[f]? = some c) (q : K c M) : OpT P o al M K :=
  OpT.plain fun n' B F Mf ac w hi hs => by
    have h := hs.ev hx
    generalize he : ac.eval x = u at h
    cases h with
    | ptr =>
      obtain ⟨cur, hr⟩ := hi.rowAt hm
      have hl : cs.length = m := hr.wid _ (List.mem_of_getElem? hk)
      have hfm := get_lt hf
      have hkn := get_lt hk
      have hkm : k * m + m ≤ n * m := by
        have : (k + 1) * m ≤ n * m := Nat.mul_le_mul_right _ (by rw [hr.len]; omega)
        rw [Nat.add_mul] at this; omega
      have hc2 := (flat_at hr.wid hk f).2 (by omega)
      rw [hf] at hc2
      obtain ⟨v, h2, h3⟩ := hr.rel.get hc2
      refine ⟨v, c, ?_, q, h3⟩
      subst hoff
      have hcell := hr.cell (j := k * m + f) (by omega)
      rw [h2] at hcell
      obtain ⟨a1, a2⟩ := tyAgg_none ht w
      simp [execOp, ho, he, Instr.loadAt, Instr.sureAddr, loadVar, a1, hcell]
theorem take_setL {α : Type} : ∀ (us l : List α) (off k : Nat), off + us.length ≤ k → (setL l off us).take k = setL (l.take k) off us
  | [], l, off, k, _ => rfl
  | u :: us, l, off, k, h => by
    simp only [List.length_cons] at h
    rw [setL, setL, take_setL us _ (off + 1) k (by omega), List.take_set]
theorem op_store_rowp {x y : Operand} {t e : TypeId} {m i g n cap off k : Nat} {v : AV} {es : List (List AV)} (ho : o.op = .store t x y) (ht : (P.info? t).map (·.size) = some m) (hx : al.ev x = some (.ptr g off)) (hy : al.ev y = some v) (hf : v.flat = true) (hs : v.cells.length = m) (hm : M[i]? = some (.row e m (rowv g n cap) es)) (hoff : off = k * m) (hk : k < es.length) (q : K (.val undef) (M.set i (.row e m (rowv g n cap) (es.set k v.cells)))) : OpT P o al M K := by
  intro n' B F Mf a w hi hsl ro
  have h := hsl.ev hx
  generalize he : a.eval x = u at h
  cases h with
  | ptr =>
    obtain ⟨h1, h2⟩ := (hsl.ev hy).cells hf
    obtain ⟨cur, hr⟩ := hi.rowAt hm
    have hl1 := h1.len
    subst hoff
    have hkm : k * m + m ≤ n * m := by
      have : (k + 1) * m ≤ n * m := Nat.mul_le_mul_right _ (by rw [hr.len]; omega)
      rw [Nat.add_mul] at this; omega
    have hnc : n * m ≤ cap * m := Nat.mul_le_mul_right _ hr.fit
    have hcl : cur.toList.length = cap * m := hr.siz
    obtain ⟨w', q1, q2, q3, q4, q5, q6, q7⟩ := storeCells_run (P := P) (a.eval y).cells.toList w cur.toList (k * m) 0 (by simpa using hr.at_) h2 (by omega)
    have hrun : (execOp a.eval o).run P w = .ok .skip w' := by
      obtain ⟨inf, hinf, hsz⟩ := Option.map_eq_some_iff.1 ht
      have hcs : (a.eval y).cells.size = m := by rw [← hs, hl1]; simp
      simp [execOp, ho, he, Instr.storeAt, Instr.sureAddr, storeVar, sizeOf, typeInfo, hinf, hsz, hcs, q1]
    have htk : (setL cur.toList (k * m) (a.eval y).cells.toList).take (n * m) = setL (cur.toList.take (n * m)) (k * m) (a.eval y).cells.toList := take_setL _ _ _ _ (by omega)
    have hrow : RowAt B F w' e m g n cap (es.set k v.cells) (setL cur.toList (k * m) (a.eval y).cells.toList).toArray := by
      refine ⟨by simpa using hr.len, hr.ge, hr.no, fun z hz => ?_, q2, hr.fit, hr.max, by simpa [setL_len] using hr.siz, ?_, ?_⟩
      · rcases List.mem_or_eq_of_mem_set hz with hz | rfl
        · exact hr.wid z hz
        · exact hs
      · rw [← setL_flat es k v.cells hr.wid hs hk, htk]
        exact h1.setL _ hr.rel
      · rw [htk]
        exact setL_one _ _ _ h2 hr.one
    refine wpR_skip hrun ⟨undef, .val undef, _, F, rfl, q, .val _, Ext.refl F, hi.put hm (b := g) rfl rfl hr.no hrow.ok q3 q4, ⟨q5, q6, q7, by omega, fun k hk => q3 k (by have := hr.ge; omega)⟩⟩
/-- the same as row_core, from cells that lie somewhere -/
theorem row_core2 {B : Nat} {F : EH} {R : Mem} {w : World} {t e ty : TypeId} {z : Value} {m bytes cnt c : Nat} {u : Value} {a : Addr} {es es' : List (List AV)} {news : List Value} (E : ElT P t e z m bytes) (hi : Inv B F (.row e m u es :: R) w) (hcnt : cnt = es'.length) (hc : ∀ j u, news[j]? = some u → w.cell? (a.add j) = some u) (h1 : Ones news) (hrn : Rels F es'.flatten news) (hwn : ∀ x ∈ es', x.length = m) (hn : es.length + es'.length ≤ 100000000000) (h0 : 0 < es.length + es'.length) :
    ∃ g cap w', (Builtin.append_ #[t, t] ty #[u, .slice (some a) cnt c]).run P w = .ok (rowv g (es.length + es'.length) cap) w' ∧ Inv B F (.row e m (rowv g (es.length + es'.length) cap) (es ++ es') :: R) w' ∧ Below B w w' := by
  obtain ⟨xs, hown, hslack, hrx, hox, hwx⟩ := hi.ok _ (List.mem_cons_self)
  subst hcnt
  have hl : news.length = es'.length * m := by rw [← hrn.len, flat_len hwn]
  obtain ⟨u', w', hrun, hown', hcase⟩ := run_app (ty := ty) E B u es.length xs hown a es'.length c news hl hc h1 hn hi.base
  have hb0 : ∀ k, k < B → w'.heap[k]? = w.heap[k]? := by
    intro k hk
    have hkw : k < w.heap.size := Nat.lt_of_lt_of_le hk hi.base
    rcases hcase with ⟨hg, _⟩ | ⟨hg, _⟩
    · refine hg.block k hkw (fun e => ?_)
      have h5 := (hi.ok _ (List.mem_cons_self)).ge (b := k) e.symm
      omega
    · exact hg.block k hkw (by simp)
  have hmisc : w'.os = w.os ∧ w'.tape = w.tape ∧ w'.output = w.output ∧ w.heap.size ≤ w'.heap.size := by
    rcases hcase with ⟨hg, _⟩ | ⟨hg, _⟩ <;> exact ⟨hg.os, hg.tape, hg.output, hg.size⟩
  have hblk : ∀ k, k < w.heap.size → some k ≠ u.ownBlock → w'.heap[k]? = w.heap[k]? := by
    intro k hk hne
    rcases hcase with ⟨hg, _⟩ | ⟨hg, _⟩
    · exact hg.block k hk hne
    · exact hg.block k hk (by simp)
  have hfar := hi.far
  rw [List.pairwise_cons] at hfar
  have hform : ∃ g cap, u' = rowv g (es.length + es'.length) cap := by
    rcases hown'.2 with ⟨_, q⟩ | ⟨g, cap, cur, q, _⟩
    · omega
    · exact ⟨g, cap, q⟩
  obtain ⟨g, cap, rfl⟩ := hform
  refine ⟨g, cap, w', hrun, ⟨Nat.le_trans hi.base hmisc.2.2.2, fun b i x e => ?_, fun r hr => ?_, ?_⟩, ⟨hmisc.1, hmisc.2.1, hmisc.2.2.1, hmisc.2.2.2, hb0⟩⟩
  · have h := hi.fix b i x e
    have hlt := cell_size h
    have hne : some b ≠ u.ownBlock := fun q => by rw [hslack b i q.symm] at e; simp at e
    unfold World.cell? at h ⊢
    rw [hblk b hlt hne]; exact h
  · rcases List.mem_cons.1 hr with rfl | hr
    · refine ⟨xs ++ news, by rw [List.length_append]; exact hown', fun g i hg => ?_, by rw [List.flatten_append]; exact hrx.app hrn, ?_, ?_⟩
      · rcases hcase with ⟨_, he⟩ | ⟨_, he⟩
        · rw [he] at hg; exact hslack g i hg
        · rw [he] at hg; simp at hg; exact hi.dom (by omega)
      · intro v hv
        rcases List.mem_append.1 hv with q | q
        · exact hox v q
        · exact h1 v q
      · intro x hx
        rcases List.mem_append.1 hx with q | q
        · exact hwx x q
        · exact hwn x q
    · have hrok := hi.ok r (List.mem_cons_of_mem _ hr)
      refine hrok.stay (Ext.refl F) (fun b hb => ⟨hblk b (hrok.lt hb) (fun q => ?_), fun _ => rfl⟩)
      rcases hfar.1 r hr with k | k
      · simp [Res.blk] at k; rw [k] at q; simp at q
      · exact k (by rw [hb, q]; rfl)
  · rw [List.pairwise_cons]
    refine ⟨fun r hr => ?_, hfar.2⟩
    have hrok := hi.ok r (List.mem_cons_of_mem _ hr)
    rcases hcase with ⟨_, he⟩ | ⟨_, he⟩
    · have := hfar.1 r hr
      unfold Far at this ⊢
      simp only [Res.blk] at this ⊢
      rw [he]; exact this
    · right
      simp only [Res.blk]
      rw [he]
      intro q
      have := hrok.lt q.symm
      omega
/-- append to a row, elements that never turn -/
theorem op_append_rowg {s x : Operand} {t e : TypeId} {z u : Value} {m bytes i : Nat} {v : AV} {es es' : List (List AV)} (E : ElT P t e z m bytes) (ho : o.op = .call { callee := .builtin .append, args := #[s, x], argTypes := #[t, t] }) (hs : al.ev s = some (.val u)) (hm : M[i]? = some (.row e m u es)) (hx : al.ev x = some v) (hv : IsSeq v m es') (hn : es.length + es'.length ≤ 100000000000) (h0 : 0 < es.length)
    (q : ∀ g cap, K (.val (rowv g (es.length + es'.length) cap)) (M.set i (.row e m (rowv g (es.length + es'.length) cap) (es ++ es')))) : OpT P o al M K := by
  intro n B F Mf a w hi hsl ro
  have hil : i < M.length := get_lt hm
  have hu := ev_val hsl hs
  have hi2 := hi.perm ((perm_at hm).append_right Mf)
  rw [List.cons_append] at hi2
  obtain ⟨u', w', hrun, hi', hb⟩ := row_core (ty := o.type) E hi2 (hv.rel (hsl.ev hx)) hn
  have hform : ∃ g cap, u' = rowv g (es.length + es'.length) cap := by
    obtain ⟨xs, hown, _⟩ := hi'.ok _ (List.mem_cons_self)
    rw [List.length_append] at hown
    rcases hown.2 with ⟨rfl, h0⟩ | ⟨g, cap, cur, rfl, _⟩
    · omega
    · exact ⟨g, cap, rfl⟩
  obtain ⟨g, cap, rfl⟩ := hform
  refine wpR_value (w' := w') ?_ ⟨_, _, _, F, rfl, q g cap, .val _, Ext.refl F, ?_, hb⟩
  · simp [execOp, ho, resolve, invoke, builtin, hu, hrun]
  · refine hi'.perm ?_
    rw [← List.cons_append]
    exact ((perm_set _ hil).append_right Mf).symm
/-- append to a row, elements of another row -/
theorem op_append_rowr {s x : Operand} {t e : TypeId} {z u : Value} {m bytes i j l cnt c g2 n2 c2 : Nat} {es es2 : List (List AV)} (E : ElT P t e z m bytes) (ho : o.op = .call { callee := .builtin .append, args := #[s, x], argTypes := #[t, t] }) (hs : al.ev s = some (.val u)) (hm : M[i]? = some (.row e m u es)) (hx : al.ev x = some (.val (.slice (some ⟨g2, l * m, none⟩) cnt c))) (hm2 : M[j]? = some (.row e m (rowv g2 n2 c2) es2)) (hl : l + cnt ≤ es2.length) (hn : es.length + cnt ≤ 100000000000) (h0 : 0 < es.length)
    (q : ∀ g cap, K (.val (rowv g (es.length + cnt) cap)) (M.set i (.row e m (rowv g (es.length + cnt) cap) (es ++ (es2.drop l).take cnt)))) : OpT P o al M K := by
  intro n B F Mf a w hi hsl ro
  have hil : i < M.length := get_lt hm
  have hu := ev_val hsl hs
  have hu2 := ev_val hsl hx
  obtain ⟨cur, hr⟩ := hi.rowAt hm2
  have hi2 := hi.perm ((perm_at hm).append_right Mf)
  rw [List.cons_append] at hi2
  have hcl : cnt = ((es2.drop l).take cnt).length := by rw [List.length_take, List.length_drop]; omega
  have hwid : ∀ x ∈ (es2.drop l).take cnt, x.length = m := fun x hx => hr.wid x (List.mem_of_mem_drop (List.mem_of_mem_take hx))
  have hrel := (hr.rel.drop (l * m)).take (cnt * m)
  have hwd : ∀ x ∈ es2.drop l, x.length = m := fun x hx => hr.wid x (List.mem_of_mem_drop hx)
  rw [flat_drop hr.wid, flat_take hwd] at hrel
  have hlm : l * m + cnt * m ≤ n2 * m := by rw [← Nat.add_mul]; exact Nat.mul_le_mul_right _ (by rw [hr.len]; exact hl)
  have key := row_core2 (ty := o.type) (c := c) (a := ⟨g2, l * m, none⟩) (cnt := cnt) E hi2 hcl (fun j' u' hj' => ?_) (fun v hv => hr.one v (List.mem_of_mem_drop (List.mem_of_mem_take hv))) hrel hwid (by omega) (by omega)
  · obtain ⟨g, cap, w', hrun, hi', hb⟩ := key
    rw [← hcl] at hrun hi'
    refine wpR_value (w' := w') ?_ ⟨_, _, _, F, rfl, q g cap, .val _, Ext.refl F, ?_, hb⟩
    · simp [execOp, ho, resolve, invoke, builtin, hu, hu2, hrun]
    · refine hi'.perm ?_
      rw [← List.cons_append]
      exact ((perm_set _ hil).append_right Mf).symm
  · rw [addr_add0']
    have hj2 := get_lt hj'
    rw [List.length_take] at hj2
    rw [hr.cell (by omega)]
    rw [List.getElem?_take] at hj'
    split at hj'
    · rwa [List.getElem?_drop] at hj'
    · simp at hj'
/-- a part of a row, to be looked at -/
theorem op_cut_row {x lo hi : Operand} {t e : TypeId} {m i l k g n cap : Nat} {k1 k2 : IntKind} {a b : Int} {es : List (List AV)} (ho : o.op = .slice t x (some lo) (some hi) none) (ht : tyElem P t = some (e, m)) (hx : al.ev x = some (.val (rowv g n cap))) (hm : M[i]? = some (.row e m (rowv g n cap) es)) (h1 : al.ev lo = some (.val (.int k1 a))) (h2 : al.ev hi = some (.val (.int k2 b))) (ha : a = l) (hb : b = k) (hlk : l < k) (hk : k ≤ es.length)
    (q : K (.val (.slice (some ⟨g, l * m, none⟩) (k - l) (cap - l))) M) : OpT P o al M K :=
  OpT.plain fun n' B F Mf ac w hi hs => by
    obtain ⟨cur, hr⟩ := hi.rowAt hm
    obtain ⟨hund, inf, hinf, rfl⟩ := tyElem_run ht
    have e0 : ac.eval x = .slice (some ⟨g, 0, none⟩) n cap := ev_val hs hx
    have e1 := ev_int hs h1
    have e2 := ev_int hs h2
    have h3 := hr.len
    have h4 := hr.fit
    subst ha hb
    refine ⟨_, _, ?_, q, .val _⟩
    have c1 : k ≤ cap := by omega
    have c2 : l ≤ k := by omega
    have c3 : ¬ cap = l := by omega
    have e3 : (⟨g, 0, none⟩ : Addr).add (l * inf.size) = ⟨g, l * inf.size, none⟩ := by rw [addr_add0', Nat.zero_add]
    simp [execOp, ho, e0, Instr.sliceAt, Instr.slice, underlying, hund, Instr.sliceBounds, Instr.sliceBound, asIntOf, sizeOf, typeInfo, hinf, e1, e2, c1, c2, c3, e3]
/-- the length of a slice that is known -/
theorem op_len_val {x : Operand} {t e : TypeId} {ao : Option Addr} {n cap : Nat} (ho : o.op = .call { callee := .builtin .len, args := #[x], argTypes := #[t] }) (ht : P.underlying t = some (.slice e)) (hx : al.ev x = some (.val (.slice ao n cap))) (q : K (.val (.int .i64 n)) M) : OpT P o al M K :=
  OpT.plain fun n' B F Mf ac w hi hs => ⟨_, _, by simp [execOp, ho, resolve, invoke, builtin, Builtin.len_, ev_val hs hx, underlying, ht, goInt], q, .val _⟩
/-- an element of an array in a variable -/
theorem op_index_arrm {x y : Operand} {t e : TypeId} {ik : IntKind} {len m b off k : Nat} {j : Int} (ho : o.op = .indexAddr t x y) (ht : P.underlying t = some (.array len e)) (hz : (P.info? e).map (·.size) = some m) (hx : al.ev x = some (.ptr b off)) (hy : al.ev y = some (.val (.int ik j))) (hj : j = k) (hlt : k < len) (q : K (.ptr b (off + k * m)) M) : OpT P o al M K :=
  OpT.plain fun n B F Mf ac w hi hs => by
    have h := hs.ev hx
    generalize he : ac.eval x = u at h
    cases h with
    | ptr =>
      obtain ⟨inf, hinf, rfl⟩ := Option.map_eq_some_iff.1 hz
      subst hj
      refine ⟨.pointer (some ⟨b, off + k * inf.size, none⟩), _, ?_, q, .ptr _ _⟩
      simp [execOp, ho, he, ev_val hs hy, Instr.indexAt, asIntOf, underlying, ht, sizeOf, typeInfo, hinf, hlt, addr_add0', Instr.sureAddr]
/-- a slice literal that may be written -/
theorem op_buildSlice_row {t e : TypeId} {z : Value} {m bytes len : Nat} {parts : Array (Nat × Operand)} {xs : List Operand} {vs : List AV} (E : ElT P t e z m bytes) (ho : o.op = .buildSlice t len parts) (hp : parts.toList = idx 0 xs) (hlen : xs.length = len) (hx : xs.mapM al.ev = some vs) (hf : vs.all (·.flat) = true) (hc : vs.all (fun v => v.cells.length == m) = true) (hn : len * m ≤ 16777216)
    (q : ∀ g, K (.val (rowv g len len)) (.row e m (rowv g len len) (vs.map AV.cells) :: M)) : OpT P o al M K := by
  intro n B F Mf a w hi hsl ro
  have hf : ∀ v ∈ vs, v.flat = true := List.all_eq_true.1 hf
  have hc : ∀ v ∈ vs, v.cells.length = m := fun v hv => by simpa using List.all_eq_true.1 hc v hv
  have hr := Rels.map_ev hsl hx
  have hsz := Rels.sizes hr hf hc
  obtain ⟨h1, h2⟩ := Rels.rows hr hf
  have hln : vs.length = len := by rw [← hlen]; simpa using hr.len
  have hrun := run_buildSlice (P := P) (w := w) E (xs.map a.eval) (by simpa [hlen] using hn) hsz
  have hparts : parts.map (fun x => (x.1, a.eval x.2)) = (idx 0 (xs.map a.eval)).toArray := by
    rw [← Array.toList_inj, Array.toList_map, hp, idx_map]
  have e1 : (execOp a.eval o).run P w = .ok (.value (.slice (some ⟨w.heap.size, 0, none⟩) len len)) (w.alloc (.cells ((xs.map a.eval).map (fun u => u.cells.toList)).flatten.toArray e)) := by
    simp only [List.length_map, hlen] at hrun
    simp only [execOp, ho, hparts, Sem.run_bind, hrun, Result.andThen_ok, Sem.run_pure]
  have hwide : ∀ x ∈ vs.map AV.cells, x.length = m := by
    intro x hx
    obtain ⟨v, hv, rfl⟩ := List.mem_map.1 hx
    exact hc v hv
  have hl3 : ((xs.map a.eval).map (fun u => u.cells.toList)).flatten.length = len * m := by rw [← h1.len, flat_len hwide]; simp [hln]
  have hlm : len ≤ maxLen := by
    have h5 : len * 1 ≤ len * m := Nat.mul_le_mul_left len E.pos
    unfold maxLen; omega
  generalize hcs : ((xs.map a.eval).map (fun u => u.cells.toList)).flatten = cells at *
  refine wpR_value (w' := w.alloc (.cells cells.toArray e)) e1 ⟨_, _, _, F, rfl, q w.heap.size, .val _, Ext.refl F, ?_, alloc_below _ hi.base⟩
  refine ⟨by have := hi.base; simp; omega, fix_alloc hi _, fun r hr' => ?_, List.pairwise_cons.2 ⟨fun r hr' => ?_, hi.far⟩⟩
  · rcases List.mem_cons.1 hr' with rfl | hr'
    · refine RowAt.ok (cur := cells.toArray) ⟨by simp [hln], hi.base, fun i => hi.dom (Nat.le_refl _), hwide, by rw [alloc_get, if_pos rfl], Nat.le_refl _, hlm, by simpa using hl3, ?_, ?_⟩
      · simpa [← hl3] using h1
      · simpa [← hl3] using h2
    · refine (hi.ok r hr').stay (Ext.refl F) (fun b hb => ⟨?_, fun _ => rfl⟩)
      have := (hi.ok r hr').lt hb
      rw [alloc_get, if_neg (by omega)]
  · right
    intro q
    have := (hi.ok r hr').lt (b := w.heap.size) (by rw [← q]; rfl)
    omega
end
end Go.Proofs.Ytflkdojahfmbnaa
