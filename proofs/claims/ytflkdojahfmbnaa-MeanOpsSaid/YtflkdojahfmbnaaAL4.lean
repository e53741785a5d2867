/- A logic of trees, part 4: append, literals, make, and cells that become eternal. -/
import Derived.Test.YtflkdojahfmbnaaAL3
namespace Go.Proofs.Ytflkdojahfmbnaa
open Go.RowKit
/-- a slice type t of elements e: its zero value, its cells, its bytes -/
structure ElT (P : Program) (t e : TypeId) (z : Value) (m bytes : Nat) : Prop where
  und : P.underlying t = some (.slice e)
  info : (P.info? e).map (fun i => (i.zero, i.size, i.bytes)) = some (some z, m, bytes)
  zs : z.cells.size = m
  pos : 0 < m
  small : bytes ≤ 1024
section
variable {P : Program} {al : Sl} {M : Mem} {K : AV → Mem → Prop} {o : Oper}
theorem run_app {w : World} {t e ty : TypeId} {z : Value} {m bytes : Nat} (E : ElT P t e z m bytes) (base : Nat) (v : Value) (n : Nat) (xs : List Value) (hown : w.ownsRow base e m v n xs)
    (a : Addr) (k c : Nat) (news : List Value) (hl : news.length = k * m) (hnews : ∀ j u, news[j]? = some u → w.cell? (a.add j) = some u) (h1 : Ones news) (hn : n + k ≤ 100000000000) (hbase : base ≤ w.heap.size) :
    ∃ v' w', (Builtin.append_ #[t, t] ty #[v, .slice (some a) k c]).run P w = .ok v' w' ∧ w'.ownsRow base e m v' (n + k) (xs ++ news) ∧
      ((w.grownBy w' v.ownBlock ∧ v'.ownBlock = v.ownBlock) ∨ (w.grownBy w' none ∧ v'.ownBlock = some w.heap.size)) := by
  obtain ⟨i, hi, hz, rfl, rfl⟩ := info_parts E.info
  have h63 : n + k ≤ maxLen := by unfold maxLen; omega
  have hbytes : (n + k) * i.bytes ≤ 140737488355328 := by
    have h2 : (n + k) * i.bytes ≤ 100000000000 * 1024 := Nat.mul_le_mul hn E.small
    omega
  have hsmall : n + k ≤ 9223372036854775807 := by omega
  have hlen : (xs ++ news).length = (n + k) * i.size := by rw [List.length_append, hown.1, hl, Nat.add_mul]
  have new : ∀ old, (w.drew.alloc (.cells (xs.toArray ++ news.toArray ++ Builtin.zeroCells z.cells (grownCap w (n + k) old e - (n + k))) e)).ownsRow base e i.size (.slice (some ⟨w.heap.size, 0, none⟩) (n + k) (grownCap w (n + k) old e)) (n + k) (xs ++ news) ∧
      w.grownBy (w.drew.alloc (.cells (xs.toArray ++ news.toArray ++ Builtin.zeroCells z.cells (grownCap w (n + k) old e - (n + k))) e)) none := by
    intro old
    have hge := grownCap_ge w (n + k) old e
    refine ⟨⟨hlen, .inr ⟨w.heap.size, _, _, rfl, hbase, heap_alloc_new w.drew _, hge, grownCap_le_maxLen w (n + k) old e h63, ?_, ?_⟩⟩, rfl, rfl, rfl, by simp, fun j hj _ => heap_alloc_old w.drew _ hj⟩
    · have h3 := E.zs
      simp only [Array.size_append, List.size_toArray, size_zeroCells, h3, hown.1, hl, ← Nat.add_mul]
      congr 1
      omega
    · simp only [Array.toList_append, List.append_assoc]
      rw [← List.append_assoc, ← hlen]
      exact List.take_left
  rcases hown.2 with ⟨rfl, rfl⟩ | ⟨g, cap, cur, rfl, hbg, hg, hnc, hcm, hcs, htake⟩
  · have hx : xs = [] := List.eq_nil_of_length_eq_zero (by simpa using hown.1)
    subst hx
    by_cases hk : k = 0
    · subst hk
      have hn : news = [] := List.eq_nil_of_length_eq_zero (by simpa using hl)
      subst hn
      refine ⟨.slice none 0 0, w, ?_, World.ownsRow_nil w base e i.size, .inl ⟨⟨rfl, rfl, rfl, Nat.le_refl _, fun _ _ _ => rfl⟩, rfl⟩⟩
      simp [Builtin.append_, run_underlying E.und, sizeOf, typeInfo, hi, Builtin.lenOf, Builtin.firstCells, loadCells, loadCellsFrom]
    · have hr := run_append_nil (P := P) w t ty e i z E.und hi hz a k c news hl hnews (by omega) (by omega) (by have hb := hbytes; simp only [Nat.zero_add] at hb; omega)
      have hgr := new 0
      simp only [Nat.zero_add, List.nil_append, Array.empty_append] at hgr ⊢
      exact ⟨_, _, hr, hgr.1, .inr ⟨hgr.2, rfl⟩⟩
  · by_cases hroom : n + k ≤ cap
    · have hfit : n * i.size + news.length ≤ cur.size := by rw [hl, hcs, ← Nat.add_mul]; exact Nat.mul_le_mul_right _ hroom
      have hr := run_append_room (P := P) w t ty e i E.und hi g n cap cur hg a k c news hl hnews h1 hroom hfit
      refine ⟨_, _, hr, ⟨hlen, .inr ⟨g, cap, _, rfl, hbg, setRow_heap w g cur _ e _ hg, hroom, hcm, ?_, ?_⟩⟩, .inl ⟨⟨rfl, rfl, rfl, by simp, fun j _ hj => setRow_other w g j _ (fun e => hj (by simp [Value.ownBlock, e]))⟩, rfl⟩⟩
      · simp only [List.size_toArray, List.length_append, List.length_take, List.length_drop, Array.length_toList]
        omega
      · rw [htake, ← hlen]
        exact List.take_left
    · have holds : ∀ j u, xs[j]? = some u → w.cell? ((⟨g, 0, none⟩ : Addr).add j) = some u := hown.cells (g := g) rfl
      have hr := run_append_grow (P := P) w t ty e i z E.und hi hz ⟨g, 0, none⟩ n cap xs hown.1 holds a k c news hl hnews (by omega) (by omega) (growslice_fits (by omega) hbytes)
      have hgr := new cap
      exact ⟨_, _, hr, hgr.1, .inr ⟨hgr.2, rfl⟩⟩
theorem addr_add0 (b off j : Nat) : (⟨b, off, none⟩ : Addr).add j = ⟨b, off + j, none⟩ := by
  unfold Addr.add; split <;> simp_all
theorem flat_len {m : Nat} : ∀ {es : List (List AV)}, (∀ e ∈ es, e.length = m) → es.flatten.length = es.length * m
  | [], _ => by simp
  | e :: es, h => by
    have h1 := h e (by simp)
    have h2 := flat_len (fun x hx => h x (by simp [hx]) : ∀ x ∈ es, x.length = m)
    simp only [List.flatten_cons, List.length_append, h1, h2, List.length_cons, Nat.add_mul]
    omega
/-- what is owned is what its word says -/
theorem own_vals {B : Nat} {F : EH} {w : World} {e : TypeId} {m n : Nat} {u : Value} {es : List (List AV)} {xs : List Value} (hfix : ∀ b i x, F b i = some x → w.cell? ⟨b, i, none⟩ = some x) (hown : w.ownsRow B e m u n xs) (hr : Rel F (.seq m es) u) :
    n = es.length ∧ Rels F es.flatten xs ∧ Ones xs ∧ ∀ x ∈ es, x.length = m := by
  cases hr with
  | seq0 _ ao cap h =>
    rcases hown.2 with ⟨_, rfl⟩ | ⟨g, cap', cur, hv, _⟩
    · have hx : xs = [] := List.eq_nil_of_length_eq_zero (by simpa using hown.1)
      subst hx
      exact ⟨rfl, .nil, by intro v hv; simp at hv, by simp⟩
    · cases hv
      have hx : xs = [] := List.eq_nil_of_length_eq_zero (by simpa using hown.1)
      subst hx
      exact ⟨rfl, .nil, by intro v hv; simp at hv, by simp⟩
  | seq b off cap hm hn hl h h1 hcq =>
    rename_i vs
    have hln := h.len
    rw [flat_len hm] at hln
    rcases hown.2 with ⟨hv, _⟩ | ⟨g, cap', cur, hv, _⟩
    · cases hv
    · cases hv
      have e : vs = xs := by
        apply List.ext_getElem?
        intro j
        rcases Nat.lt_or_ge j vs.length with hj | hj
        · have h3 := hfix _ _ _ (hl j vs[j] (List.getElem?_eq_getElem hj))
          have h4 := hown.cellAt j (by omega)
          rw [Nat.zero_add] at h3
          rw [List.getElem?_eq_getElem hj, ← h4, h3]
        · rw [List.getElem?_eq_none hj, List.getElem?_eq_none (by rw [hown.1]; omega)]
      subst e
      exact ⟨rfl, h, h1, hm⟩
/-- the eternal cells behind an append -/
def EH.grow (F : EH) (bo : Option Nat) (vs : List Value) : EH := fun b i => if some b = bo ∧ i < vs.length then vs[i]? else F b i
theorem append_core {B : Nat} {F : EH} {R : Mem} {w : World} {t e ty : TypeId} {z : Value} {m bytes : Nat} {u src : Value} {es es' : List (List AV)} (E : ElT P t e z m bytes) (hi : Inv B F (.own e m u :: R) w) (hu : Rel F (.seq m es) u) (hv : Rel F (.seq m es') src) (hn : es.length + es'.length ≤ 100000000000) :
    ∃ u' w' F', (Builtin.append_ #[t, t] ty #[u, src]).run P w = .ok u' w' ∧ Rel F' (.seq m (es ++ es')) u' ∧ Ext F F' ∧ Inv B F' (.own e m u' :: R) w' ∧ Below B w w' := by
  obtain ⟨n, xs, hown, hslack⟩ := hi.ok _ (List.mem_cons_self)
  obtain ⟨rfl, hrx, hox, hwx⟩ := own_vals hi.fix hown hu
  have src2 : (src = .slice none 0 0 ∧ es' = []) ∨ ∃ a c news, src = .slice (some a) es'.length c ∧ news.length = es'.length * m ∧ (∀ j u, news[j]? = some u → w.cell? (a.add j) = some u) ∧ Ones news ∧ Rels F es'.flatten news ∧ ∀ x ∈ es', x.length = m := by
    cases hv with
    | seq0 _ ao cap h =>
      cases ao with
      | none => exact .inl ⟨by rw [h rfl], rfl⟩
      | some a => exact .inr ⟨a, cap, [], rfl, by simp, by simp, by intro v hv; simp at hv, .nil, by simp⟩
    | seq b off cap hm hn hl h h1 hcq =>
      rename_i vs
      refine .inr ⟨_, cap, vs, rfl, by rw [← h.len, flat_len hm], fun j x hx => ?_, h1, h, hm⟩
      rw [addr_add0]
      exact hi.fix _ _ _ (hl j x hx)
  rcases src2 with ⟨rfl, rfl⟩ | ⟨a, c, news, rfl, hl, hc, h1, hrn, hwn⟩
  · obtain ⟨i, hinf, _⟩ := info_parts E.info
    have hrun := run_append_owned_none (P := P) (w := w) B t ty e i m E.und hinf u es.length xs hown
    exact ⟨u, w, F, hrun, by simpa using hu, Ext.refl F, hi, Below.refl _ _⟩
  · obtain ⟨u', w', hrun, hown', hcase⟩ := run_app (ty := ty) E B u es.length xs hown a es'.length c news hl hc h1 hn hi.base
    have hlen : (xs ++ news).length = (es.length + es'.length) * m := hown'.1
    have hb0 : ∀ k, k < B → w'.heap[k]? = w.heap[k]? := by
      intro k hk
      have hkw : k < w.heap.size := Nat.lt_of_lt_of_le hk hi.base
      rcases hcase with ⟨hg, _⟩ | ⟨hg, _⟩
      · refine hg.block k hkw (fun e => ?_)
        have h5 := (hi.ok _ (List.mem_cons_self)).ge (b := k) e.symm
        omega
      · exact hg.block k hkw (by simp)
    have hmisc : w'.os = w.os ∧ w'.tape = w.tape ∧ w'.output = w.output ∧ w.heap.size ≤ w'.heap.size := by
      rcases hcase with ⟨hg, _⟩ | ⟨hg, _⟩ <;> exact ⟨hg.os, hg.tape, hg.output, hg.size⟩
    have hgrow : Ext F (F.grow u'.ownBlock (xs ++ news)) := by
      intro b i x h
      unfold EH.grow
      split
      · rename_i hh
        obtain ⟨hb, hil⟩ := hh
        rcases hcase with ⟨_, he⟩ | ⟨_, he⟩
        · rw [he] at hb
          have hin : i < es.length * m := by
            rcases Nat.lt_or_ge i (es.length * m) with q | q
            · exact q
            · rw [hslack b i hb.symm q] at h; simp at h
          rw [List.getElem?_append_left (by rw [hown.1]; exact hin)]
          have h2 := hi.fix b i x h
          rcases hown.2 with ⟨rfl, _⟩ | ⟨g, cap, cur, rfl, _⟩
          · simp [Value.ownBlock] at hb
          · simp [Value.ownBlock] at hb
            subst hb
            rw [← hown.cellAt i hin]; exact h2
        · rw [he] at hb
          simp at hb
          rw [hi.dom (by omega)] at h
          simp at h
      · exact h
    refine ⟨u', w', F.grow u'.ownBlock (xs ++ news), hrun, ?_, hgrow, ?_, ⟨hmisc.1, hmisc.2.1, hmisc.2.2.1, hmisc.2.2.2, hb0⟩⟩
    · rcases hown'.2 with ⟨rfl, h0⟩ | ⟨g, cap, cur, rfl, _, _, hcp, _⟩
      · have e1 : es = [] := List.eq_nil_of_length_eq_zero (by omega)
        have e2 : es' = [] := List.eq_nil_of_length_eq_zero (by omega)
        subst e1 e2
        exact .seq0 m none 0 (fun _ => rfl)
      · have hh := Rel.seq (F := F.grow (Value.ownBlock (.slice (some ⟨g, 0, none⟩) (es.length + es'.length) cap)) (xs ++ news)) (m := m) (es := es ++ es') (vs := xs ++ news) g 0 cap (by
            intro x hx
            rcases List.mem_append.1 hx with q | q
            · exact hwx x q
            · exact hwn x q) (by rw [List.length_append]; unfold maxLen; omega) (by
            intro j x hx
            have hj : j < (xs ++ news).length := by
              rcases Nat.lt_or_ge j (xs ++ news).length with q | q
              · exact q
              · rw [List.getElem?_eq_none q] at hx; simp at hx
            unfold EH.grow
            rw [if_pos ⟨by rw [Value.ownBlock], by omega⟩, Nat.zero_add]
            exact hx) (by
            rw [List.flatten_append]
            exact (hrx.app hrn).mono hgrow) (by
            intro v hv
            rcases List.mem_append.1 hv with q | q
            · exact hox v q
            · exact h1 v q) (by rw [List.length_append]; exact hcp)
        rwa [List.length_append] at hh
    · have hfar := hi.far
      rw [List.pairwise_cons] at hfar
      have ublk : ∀ r ∈ R, Far (.own e m u') r := by
        intro r hr
        rcases hcase with ⟨_, he⟩ | ⟨_, he⟩
        · have := hfar.1 r hr
          unfold Far at this ⊢
          simp only [Res.blk] at this ⊢
          rw [he]; exact this
        · right
          simp only [Res.blk, he]
          intro q
          have := (hi.ok r (List.mem_cons_of_mem _ hr)).lt (b := w.heap.size) q.symm
          omega
      refine ⟨Nat.le_trans hi.base hmisc.2.2.2, fun b i x h => ?_, fun r hr => ?_, List.pairwise_cons.2 ⟨ublk, hfar.2⟩⟩
      · unfold EH.grow at h
        split at h
        · rename_i hh
          obtain ⟨hb, hil⟩ := hh
          rcases hown'.2 with ⟨rfl, _⟩ | ⟨g, cap, cur, rfl, _⟩
          · simp [Value.ownBlock] at hb
          · simp [Value.ownBlock] at hb
            subst hb
            rw [hown'.cellAt i (by omega)]; exact h
        · rename_i hh
          have h2 := hi.fix b i x h
          have hlt := cell_size h2
          rcases hcase with ⟨hg, he⟩ | ⟨hg, he⟩
          · by_cases q : some b = u.ownBlock
            · exfalso
              have hin : i < es.length * m := by
                rcases Nat.lt_or_ge i (es.length * m) with q2 | q2
                · exact q2
                · rw [hslack b i q.symm q2] at h; simp at h
              exact hh ⟨by rw [he]; exact q, by rw [List.length_append, hown.1]; omega⟩
            · rw [World.cell?_of_block (w := w) (hg.block b hlt q)]; exact h2
          · rw [World.cell?_of_block (w := w) (hg.block b hlt (by simp))]; exact h2
      · rcases List.mem_cons.1 hr with rfl | hr
        · refine ⟨es.length + es'.length, xs ++ news, hown', fun g i hg hin => ?_⟩
          unfold EH.grow
          rw [if_neg (fun q => by omega)]
          rcases hcase with ⟨_, he⟩ | ⟨_, he⟩
          · rw [he] at hg
            exact hslack g i hg (by rw [Nat.add_mul] at hin; omega)
          · rw [he] at hg
            simp at hg
            exact hi.dom (by omega)
        · have hro := hi.ok r (List.mem_cons_of_mem _ hr)
          refine hro.stay hgrow (fun b hb => ?_)
          have hlt := hro.lt hb
          have hne : some b ≠ u.ownBlock := by
            intro q
            rcases hfar.1 r hr with k | k
            · simp only [Res.blk] at k; rw [k] at q; simp at q
            · exact k (by rw [hb, q]; rfl)
          have hne' : some b ≠ u'.ownBlock := by
            intro q
            rcases ublk r hr with k | k
            · simp only [Res.blk] at k; rw [k] at q; simp at q
            · exact k (by rw [hb, q]; rfl)
          refine ⟨?_, fun i => ?_⟩
          · rcases hcase with ⟨hg, _⟩ | ⟨hg, _⟩
            · exact hg.block b hlt hne
            · exact hg.block b hlt (by simp)
          · unfold EH.grow
            rw [if_neg (fun q => hne' q.1)]
theorem perm_at : ∀ {M : Mem} {i : Nat} {r : Res}, M[i]? = some r → M.Perm (r :: M.eraseIdx i)
  | [], i, r, h => by simp at h
  | x :: M, 0, r, h => by simp at h; subst h; simp
  | x :: M, i + 1, r, h => by
    have := perm_at (M := M) (i := i) (r := r) (by simpa using h)
    rw [List.eraseIdx_cons_succ]
    exact (this.cons x).trans (List.Perm.swap r x _)
theorem perm_set {M : Mem} {i : Nat} (r : Res) (hil : i < M.length) : (M.set i r).Perm (r :: M.eraseIdx i) := by
  have := perm_at (M := M.set i r) (i := i) (r := r) (by simp [hil])
  rwa [List.eraseIdx_set_eq] at this
theorem op_append {s x : Operand} {t e : TypeId} {z u : Value} {m bytes i : Nat} {v : AV} {es es' : List (List AV)} (E : ElT P t e z m bytes) (ho : o.op = .call { callee := .builtin .append, args := #[s, x], argTypes := #[t, t] }) (hs : al.ev s = some (.own u m es)) (hm : M[i]? = some (.own e m u)) (hx : al.ev x = some v) (hv : IsSeq v m es') (hn : es.length + es'.length ≤ 100000000000)
    (q : ∀ u', K (.own u' m (es ++ es')) (M.set i (.own e m u'))) : OpT P o al M K := by
  intro n B F Mf a w hi hsl ro
  have hil : i < M.length := by
    rcases Nat.lt_or_ge i M.length with k | k
    · exact k
    · rw [List.getElem?_eq_none k] at hm; simp at hm
  have hu := hsl.ev hs
  generalize he : a.eval s = u0 at hu
  cases hu with
  | own _ hu =>
    have hi2 := hi.perm ((perm_at hm).append_right Mf)
    rw [List.cons_append] at hi2
    obtain ⟨u', w', F', h1, h2, h3, h4, h5⟩ := append_core (ty := o.type) E hi2 hu (hv.rel (hsl.ev hx)) hn
    have e : (execOp a.eval o).run P w = .ok (.value u') w' := by
      simp [execOp, ho, resolve, invoke, builtin, he, h1]
    refine wpR_value e ⟨u', _, _, F', rfl, q u', .own u' h2, h3, ?_, h5⟩
    rw [← List.cons_append] at h4
    exact h4.perm ((perm_set _ hil).append_right Mf).symm
theorem Inv.ownNil {B : Nat} {F : EH} {M : Mem} {w : World} (hi : Inv B F M w) (e : TypeId) (m : Nat) : Inv B F (.own e m (.slice none 0 0) :: M) w := by
  refine ⟨hi.base, hi.fix, fun r hr => ?_, List.pairwise_cons.2 ⟨fun r _ => Or.inl rfl, hi.far⟩⟩
  rcases List.mem_cons.1 hr with rfl | hr
  · exact ⟨0, [], World.ownsRow_nil w B e m, fun g i hg => by simp [Value.ownBlock] at hg⟩
  · exact hi.ok r hr
theorem op_append_nil {s x : Operand} {t e : TypeId} {z : Value} {m bytes : Nat} {v : AV} {es' : List (List AV)} (E : ElT P t e z m bytes) (ho : o.op = .call { callee := .builtin .append, args := #[s, x], argTypes := #[t, t] }) (hs : al.ev s = some (.val (.slice none 0 0))) (hx : al.ev x = some v) (hv : IsSeq v m es') (hn : es'.length ≤ 100000000000)
    (q : ∀ u', K (.own u' m es') (.own e m u' :: M)) : OpT P o al M K := by
  intro n B F Mf a w hi hsl ro
  have he := ev_val hsl hs
  obtain ⟨u', w', F', h1, h2, h3, h4, h5⟩ := append_core (ty := o.type) E (hi.ownNil e m) (Rel.seq0 m none 0 (fun _ => rfl)) (hv.rel (hsl.ev hx)) (by simpa using hn)
  have e : (execOp a.eval o).run P w = .ok (.value u') w' := by
    simp [execOp, ho, resolve, invoke, builtin, he, h1]
  exact wpR_value e ⟨u', _, _, F', rfl, q u', .own u' (by simpa using h2), h3, h4, h5⟩
/-- a nil slice is a slice of the call's own -/
theorem ACode.ownNil {ro : Option Nat} {n : Nat} {Q : Exit → Sl → Mem → Prop} {c : Code} {t : Nat} (e : TypeId) (m : Nat) (ht : al.lookup t = some (.val (.slice none 0 0))) (h : ACode ro P n c Q ((t, .own (.slice none 0 0) m []) :: al) (.own e m (.slice none 0 0) :: M)) : ACode ro P n c Q al M := by
  intro B F Mf a w hi hs
  refine h B F Mf a w (hi.ownNil e m) ⟨hs.1, fun t' v e => ?_⟩
  simp only [List.lookup_cons] at e
  by_cases q : t' = t
  · subst q
    simp at e; subst e
    have := hs.2 t' _ ht
    refine ⟨this.1, ?_⟩
    have h2 := this.2
    generalize a.tmps.getD t' undef = y at h2
    cases h2
    exact .own _ (.seq0 m none 0 (fun _ => rfl))
  · have : (t' == t) = false := by simpa using q
    rw [this] at e
    exact hs.2 t' v e
end
end Go.Proofs.Ytflkdojahfmbnaa
