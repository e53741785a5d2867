/- A logic of trees, part 11: rows: slices whose cells may turn; pure calls that look at a row; boxes that become eternal. -/
import Derived.Test.YtflkdojahfmbnaaAL10
namespace Go.Proofs.Ytflkdojahfmbnaa
open Go.RowKit
theorem MImp.rowNil (e : TypeId) (m : Nat) (M : Mem) : MImp M (.row e m (.slice none 0 0) [] :: M) := fun B F Mf w x => by
  refine ⟨x.base, x.fix, fun r hr => ?_, ?_⟩
  · rcases List.mem_cons.1 hr with rfl | hr
    · exact ⟨[], ⟨by simp, .inl ⟨rfl, rfl⟩⟩, by simp [Value.ownBlock], .nil, by intro v hv; simp at hv, by simp⟩
    · exact x.ok r hr
  · rw [List.cons_append, List.pairwise_cons]
    exact ⟨fun r _ => .inl rfl, x.far⟩
section
variable {P : Program} {al : Sl} {M : Mem} {K : AV → Mem → Prop} {o : Oper}
theorem Inv.kept' {B : Nat} {F : EH} {M : Mem} {w w' : World} (hi : Inv B F M w) (hb : Below w.heap.size w w') : Inv B F M w' := by
  refine ⟨Nat.le_trans hi.base hb.size, fun b i x e => ?_, fun r hr => ?_, hi.far⟩
  · have h := hi.fix b i x e
    have hlt := cell_size h
    unfold World.cell? at h ⊢
    rw [hb.block b hlt]; exact h
  · exact (hi.ok r hr).stay (Ext.refl F) (fun b hb' => ⟨hb.block b ((hi.ok r hr).lt hb'), fun _ => rfl⟩)
theorem get_lt {α : Type} {l : List α} {i : Nat} {x : α} (h : l[i]? = some x) : i < l.length := (List.getElem?_eq_some_iff.1 h).1
theorem row_core {B : Nat} {F : EH} {R : Mem} {w : World} {t e ty : TypeId} {z : Value} {m bytes : Nat} {u src : Value} {es es' : List (List AV)} (E : ElT P t e z m bytes) (hi : Inv B F (.row e m u es :: R) w) (hv : Rel F (.seq m es') src) (hn : es.length + es'.length ≤ 100000000000) :
    ∃ u' w', (Builtin.append_ #[t, t] ty #[u, src]).run P w = .ok u' w' ∧ Inv B F (.row e m u' (es ++ es') :: R) w' ∧ Below B w w' := by
  obtain ⟨xs, hown, hslack, hrx, hox, hwx⟩ := hi.ok _ (List.mem_cons_self)
  have src2 : (src = .slice none 0 0 ∧ es' = []) ∨ ∃ a c news, src = .slice (some a) es'.length c ∧ news.length = es'.length * m ∧ (∀ j u, news[j]? = some u → w.cell? (a.add j) = some u) ∧ Ones news ∧ Rels F es'.flatten news ∧ ∀ x ∈ es', x.length = m := by
    cases hv with
    | seq0 _ ao cap h =>
      cases ao with
      | none => exact .inl ⟨by rw [h rfl], rfl⟩
      | some a => exact .inr ⟨a, cap, [], rfl, by simp, by simp, by intro v hv; simp at hv, .nil, by simp⟩
    | seq b off cap hm hn hl h h1 hcp =>
      rename_i vs
      refine .inr ⟨_, cap, vs, rfl, by rw [← h.len, flat_len hm], fun j x hx => ?_, h1, h, hm⟩
      rw [addr_add0]
      exact hi.fix _ _ _ (hl j x hx)
  rcases src2 with ⟨rfl, rfl⟩ | ⟨a, c, news, rfl, hl, hc, h1, hrn, hwn⟩
  · obtain ⟨i, hinf, _⟩ := info_parts E.info
    have hrun := run_append_owned_none (P := P) (w := w) B t ty e i m E.und hinf u es.length xs hown
    exact ⟨u, w, hrun, by rw [List.append_nil]; exact hi, Below.refl _ _⟩
  · obtain ⟨u', w', hrun, hown', hcase⟩ := run_app (ty := ty) E B u es.length xs hown a es'.length c news hl hc h1 hn hi.base
    have hb0 : ∀ k, k < B → w'.heap[k]? = w.heap[k]? := by
      intro k hk
      have hkw : k < w.heap.size := Nat.lt_of_lt_of_le hk hi.base
      rcases hcase with ⟨hg, _⟩ | ⟨hg, _⟩
      · refine hg.block k hkw (fun e => ?_)
        have h5 := (hi.ok _ (List.mem_cons_self)).ge (b := k) e.symm
        omega
      · exact hg.block k hkw (by simp)
    have hmisc : w'.os = w.os ∧ w'.tape = w.tape ∧ w'.output = w.output ∧ w.heap.size ≤ w'.heap.size := by
      rcases hcase with ⟨hg, _⟩ | ⟨hg, _⟩ <;> exact ⟨hg.os, hg.tape, hg.output, hg.size⟩
    have hblk : ∀ k, k < w.heap.size → some k ≠ u.ownBlock → w'.heap[k]? = w.heap[k]? := by
      intro k hk hne
      rcases hcase with ⟨hg, _⟩ | ⟨hg, _⟩
      · exact hg.block k hk hne
      · exact hg.block k hk (by simp)
    have hfar := hi.far
    rw [List.pairwise_cons] at hfar
    refine ⟨u', w', hrun, ⟨Nat.le_trans hi.base hmisc.2.2.2, fun b i x e => ?_, fun r hr => ?_, ?_⟩, ⟨hmisc.1, hmisc.2.1, hmisc.2.2.1, hmisc.2.2.2, hb0⟩⟩
    · have h := hi.fix b i x e
      have hlt := cell_size h
      have hne : some b ≠ u.ownBlock := fun q => by rw [hslack b i q.symm] at e; simp at e
      unfold World.cell? at h ⊢
      rw [hblk b hlt hne]; exact h
    · rcases List.mem_cons.1 hr with rfl | hr
      · refine ⟨xs ++ news, by rw [List.length_append]; exact hown', fun g i hg => ?_, by rw [List.flatten_append]; exact hrx.app hrn, ?_, ?_⟩
        · rcases hcase with ⟨_, he⟩ | ⟨_, he⟩
          · rw [he] at hg; exact hslack g i hg
          · rw [he] at hg; simp at hg; exact hi.dom (by omega)
        · intro v hv
          rcases List.mem_append.1 hv with q | q
          · exact hox v q
          · exact h1 v q
        · intro x hx
          rcases List.mem_append.1 hx with q | q
          · exact hwx x q
          · exact hwn x q
      · have hrok := hi.ok r (List.mem_cons_of_mem _ hr)
        refine hrok.stay (Ext.refl F) (fun b hb => ⟨hblk b (hrok.lt hb) (fun q => ?_), fun _ => rfl⟩)
        rcases hfar.1 r hr with k | k
        · simp [Res.blk] at k; rw [k] at q; simp at q
        · exact k (by rw [hb, q]; rfl)
    · rw [List.pairwise_cons]
      refine ⟨fun r hr => ?_, hfar.2⟩
      have hrok := hi.ok r (List.mem_cons_of_mem _ hr)
      rcases hcase with ⟨_, he⟩ | ⟨_, he⟩
      · have := hfar.1 r hr
        unfold Far at this ⊢
        simp only [Res.blk] at this ⊢
        rw [he]; exact this
      · right
        simp only [Res.blk]
        rw [he]
        intro q
        have := hrok.lt q.symm
        omega
/-- append to a row -/
theorem op_append_row {s x : Operand} {t e : TypeId} {z u : Value} {m bytes i : Nat} {v : AV} {es es' : List (List AV)} (E : ElT P t e z m bytes) (ho : o.op = .call { callee := .builtin .append, args := #[s, x], argTypes := #[t, t] }) (hs : al.ev s = some (.val u)) (hm : M[i]? = some (.row e m u es)) (hx : al.ev x = some v) (hv : IsSeq v m es') (hn : es.length + es'.length ≤ 100000000000)
    (q : ∀ ao cap, K (.val (.slice ao (es.length + es'.length) cap)) (M.set i (.row e m (.slice ao (es.length + es'.length) cap) (es ++ es')))) : OpT P o al M K := by
  intro n B F Mf a w hi hsl ro
  have hil : i < M.length := get_lt hm
  have hu := ev_val hsl hs
  have hi2 := hi.perm ((perm_at hm).append_right Mf)
  rw [List.cons_append] at hi2
  obtain ⟨u', w', hrun, hi', hb⟩ := row_core (ty := o.type) E hi2 (hv.rel (hsl.ev hx)) hn
  have hform : ∃ ao cap, u' = .slice ao (es.length + es'.length) cap := by
    obtain ⟨xs, hown, _⟩ := hi'.ok _ (List.mem_cons_self)
    rw [List.length_append] at hown
    rcases hown.2 with ⟨rfl, h0⟩ | ⟨g, cap, cur, rfl, _⟩
    · exact ⟨none, 0, by rw [h0]⟩
    · exact ⟨_, cap, rfl⟩
  obtain ⟨ao, cap, rfl⟩ := hform
  refine wpR_value (w' := w') ?_ ⟨_, _, _, F, rfl, q ao cap, .val _, Ext.refl F, ?_, hb⟩
  · simp [execOp, ho, resolve, invoke, builtin, hu, hrun]
  · refine hi'.perm ?_
    rw [← List.cons_append]
    exact ((perm_set _ hil).append_right Mf).symm
/-- the length of a row -/
theorem op_len_row {x : Operand} {t e0 e : TypeId} {m i : Nat} {u : Value} {es : List (List AV)} (ho : o.op = .call { callee := .builtin .len, args := #[x], argTypes := #[t] }) (ht : P.underlying t = some (.slice e0)) (hx : al.ev x = some (.val u)) (hm : M[i]? = some (.row e m u es)) (q : es.length ≤ 9223372036854775807 → K (.val (.int .i64 es.length)) M) : OpT P o al M K :=
  OpT.plain fun n B F Mf ac w hi hs => by
    obtain ⟨xs, hown, _⟩ := hi.ok (.row e m u es) (List.mem_append_left _ (List.mem_of_getElem? hm))
    have hu := ev_val hs hx
    rcases hown.2 with ⟨rfl, h0⟩ | ⟨g, cap, cur, rfl, _, _, hnc, hcm, _⟩
    · rw [h0] at q
      exact ⟨_, _, by simp [execOp, ho, resolve, invoke, builtin, Builtin.len_, hu, underlying, ht, goInt], q (by omega), .val _⟩
    · exact ⟨_, _, by simp [execOp, ho, resolve, invoke, builtin, Builtin.len_, hu, underlying, ht, goInt], q (by unfold maxLen at hcm; omega), .val _⟩
/-- a row, cut -/
theorem op_slice_row {x hi : Operand} {t e : TypeId} {m i k : Nat} {ik : IntKind} {j : Int} {u : Value} {es : List (List AV)} (ho : o.op = .slice t x none (some hi) none) (ht : tyElem P t = some (e, m)) (hx : al.ev x = some (.val u)) (hh : al.ev hi = some (.val (.int ik j))) (hj : j = k) (hk : k ≤ es.length) (hm : M[i]? = some (.row e m u es)) (q : ∀ ao cap, K (.val (.slice ao k cap)) (M.set i (.row e m (.slice ao k cap) (es.take k)))) : OpT P o al M K := by
  intro n B F Mf a w hi' hsl ro
  have hil : i < M.length := get_lt hm
  have hu := ev_val hsl hx
  have hjv := ev_val hsl hh
  have hi2 := hi'.perm ((perm_at hm).append_right Mf)
  rw [List.cons_append] at hi2
  obtain ⟨hund, inf, hinf, rfl⟩ := tyElem_run ht
  obtain ⟨xs, hown, hslack, hrx, hox, hwx⟩ := hi2.ok _ (List.mem_cons_self)
  have hfar := hi2.far
  rw [List.pairwise_cons] at hfar
  subst hj
  have fin : ∀ (ao : Option Addr) (cap : Nat) (u' : Value), u' = .slice ao k cap → u'.ownBlock = u.ownBlock → w.ownsRow B e inf.size u' k (xs.take (k * inf.size)) → (Instr.sliceAt t u none (some (.int ik k)) none).run P w = .ok u' w →
      o.wpIn (RF ro) 0 P a w (fun a' w' => ∃ u v M' F', a' = a.put o.dst u ∧ K v M' ∧ Rel F' v u ∧ Ext F F' ∧ Inv B F' (M' ++ Mf) w' ∧ Below B w w') (fun _ _ _ => False) := by
    intro ao cap u' hform hbk hown' hrun
    subst hform
    refine wpR_value (u := .slice ao k cap) (w' := w) (by simp [execOp, ho, hu, hjv, hrun]) ⟨_, _, _, F, rfl, q ao cap, .val _, Ext.refl F, ?_, Below.refl _ _⟩
    have hinv : Inv B F (.row e inf.size (.slice ao k cap) (es.take k) :: (M.eraseIdx i ++ Mf)) w := by
      refine ⟨hi2.base, hi2.fix, fun r hr => ?_, ?_⟩
      · rcases List.mem_cons.1 hr with rfl | hr
        · refine ⟨xs.take (k * inf.size), by rw [List.length_take, Nat.min_eq_left hk]; exact hown', fun g i' hg => hslack g i' (by rw [← hbk]; exact hg), ?_, fun v hv => hox v (List.mem_of_mem_take hv), fun x hx => hwx x (List.mem_of_mem_take hx)⟩
          have := hrx.take (k * inf.size)
          rwa [flat_take hwx] at this
        · exact hi2.ok r (List.mem_cons_of_mem _ hr)
      · rw [List.pairwise_cons]
        refine ⟨fun r hr => ?_, hfar.2⟩
        have := hfar.1 r hr
        unfold Far at this ⊢
        simp only [Res.blk] at this ⊢
        rw [hbk]; exact this
    refine hinv.perm ?_
    rw [← List.cons_append]
    exact ((perm_set _ hil).append_right Mf).symm
  rcases hown.2 with ⟨rfl, h0⟩ | ⟨g, cap, cur, rfl, hbg, hg, hnc, hcm, hcs, htake⟩
  · have hk0 : k = 0 := by omega
    subst hk0
    refine fin none 0 (.slice none 0 0) rfl rfl ⟨by simp, .inl ⟨rfl, rfl⟩⟩ ?_
    simp [Instr.sliceAt, Instr.slice, underlying, hund, Instr.sliceBounds, Instr.sliceBound, asIntOf, sizeOf, typeInfo, hinf]
  · refine fin _ cap (.slice (some ⟨g, 0, none⟩) k cap) rfl rfl ⟨?_, .inr ⟨g, cap, cur, rfl, hbg, hg, by omega, hcm, hcs, ?_⟩⟩ ?_
    · rw [List.length_take, hown.1]
      have : k * inf.size ≤ es.length * inf.size := Nat.mul_le_mul_right _ hk
      omega
    · rw [← htake, List.take_take]
      have : k * inf.size ≤ es.length * inf.size := Nat.mul_le_mul_right _ hk
      rw [Nat.min_eq_left this]
    · have h1 : (0 : Int) ≤ (k : Int) ∧ (k : Int) ≤ (cap : Int) := ⟨by omega, by omega⟩
      simp [Instr.sliceAt, Instr.slice, underlying, hund, Instr.sliceBounds, Instr.sliceBound, asIntOf, sizeOf, typeInfo, hinf, h1, addr_add0]
      omega
/-- words that look at a row -/
inductive Bor (u : Value) (m : Nat) (es : List (List AV)) : List AV → List AV → Prop
  | nil : Bor u m es [] []
  | le {v v' : AV} {vs vs' : List AV} (h : Le v v') (hs : Bor u m es vs vs') : Bor u m es (v :: vs) (v' :: vs')
  | row {vs vs' : List AV} (hs : Bor u m es vs vs') : Bor u m es (.val u :: vs) (.seq m es :: vs')
theorem Bor.rels {u : Value} {m : Nat} {es : List (List AV)} {F F' : EH} (hF : Ext F F') (hu : Rel F' (.seq m es) u) : ∀ {vs vs' : List AV} {us : List Value}, Bor u m es vs vs' → Rels F vs us → Rels F' vs' us
  | _, _, _, .nil, .nil => .nil
  | _, _, _, .le h hs, .cons k ks => .cons (h _ _ (k.mono hF)) (Bor.rels hF hu hs ks)
  | _, _, _, .row hs, .cons k ks => by cases k; exact .cons hu (Bor.rels hF hu hs ks)
/-- a pure call that looks at a row, and answers a plain value -/
theorem op_callbr {f : FuncId} {xs : List Operand} {ts : Array TypeId} {vs vs' : List AV} {e : TypeId} {m : Nat} {u : Value} {es : List (List AV)} (i : Nat) {R : AV → Mem → Prop} (ho : o.op = .call { callee := .value (.func f), args := xs.toArray, argTypes := ts }) (hx : xs.mapM al.ev = some vs) (hm : M[i]? = some (.row e m u es)) (hc : ACall P f vs' [] R) (hl : Bor u m es vs vs') (q : ∀ v M', R v M' → (∃ x, v = .val x) ∧ K v M) : OpT P o al M K := by
  intro n B F Mf a w hi hs ro
  have hrun : (execOp a.eval o).run P w = .ok (.enter f (xs.map a.eval).toArray) w := by
    simp only [execOp, ho, resolve, Act.eval, Deferred.ofValue, Sem.run_bind, Sem.run_pure, Result.andThen_ok, invoke, List.map_toArray, List.append_toArray, List.nil_append, List.append_nil]
    exact hc.ent _ _
  obtain ⟨zs, hown, hslack, hrx, hox, hwx⟩ := hi.ok (.row e m u es) (List.mem_append_left _ (List.mem_of_getElem? hm))
  have hext : Ext F (F.grow u.ownBlock zs) := by
    intro b j x h
    unfold EH.grow
    split
    · rename_i hh
      rw [hslack b j hh.1.symm] at h; simp at h
    · exact h
  have hinv : Inv w.heap.size (F.grow u.ownBlock zs) ([] ++ []) w := by
    refine ⟨Nat.le_refl _, fun b j x h => ?_, by simp, by simp⟩
    unfold EH.grow at h
    split at h
    · rename_i hh
      obtain ⟨hb, hj⟩ := hh
      rcases hown.2 with ⟨rfl, _⟩ | ⟨g, cap, cur, rfl, _⟩
      · simp [Value.ownBlock] at hb
      · simp [Value.ownBlock] at hb
        subst hb
        rw [hown.cellAt j (by rw [← hown.1]; exact hj)]; exact h
    · exact hi.fix b j x h
  have hu : Rel (F.grow u.ownBlock zs) (.seq m es) u := by
    rcases hown.2 with ⟨rfl, h0⟩ | ⟨g, cap, cur, rfl, _, _, hnc, hcm, _⟩
    · have : es = [] := List.eq_nil_of_length_eq_zero h0
      subst this
      exact .seq0 m none 0 (fun _ => rfl)
    · refine .seq (vs := zs) g 0 cap hwx (by omega) (fun j x hx => ?_) (hrx.mono hext) hox (by omega)
      have hj := get_lt hx
      unfold EH.grow
      rw [if_pos ⟨by rw [Value.ownBlock], by omega⟩, Nat.zero_add]
      exact hx
  refine wpR_enter hrun ((hc.run w.heap.size _ [] w _ hinv (hl.rels hext hu (Rels.map_ev hs hx))).mono ?_)
  rintro e w' ⟨u1, v, M', F', rfl, h2, h3, h4, h5, h6⟩
  obtain ⟨⟨x, rfl⟩, hk⟩ := q v M' h2
  cases h3
  exact ⟨_, rfl, _, _, M, F, rfl, hk, .val _, Ext.refl F, hi.kept' h6, ⟨h6.os, h6.tape, h6.output, h6.size, fun k hk => h6.block k (Nat.lt_of_lt_of_le hk hi.base)⟩⟩
theorem op_callbrb {f : FuncId} {xs : List Operand} {ts : Array TypeId} {vs vs' : List AV} {e : TypeId} {m : Nat} {u : Value} {es : List (List AV)} (i : Nat) {p : Prop} (ho : o.op = .call { callee := .value (.func f), args := xs.toArray, argTypes := ts }) (hx : xs.mapM al.ev = some vs) (hm : M[i]? = some (.row e m u es)) (hc : BCall P f vs' p) (hl : Bor u m es vs vs') (q : ∀ c : Bool, (c = true ↔ p) → K (.val (.bool c)) M) : OpT P o al M K :=
  op_callbr i ho hx hm hc hl (by rintro v M' ⟨⟨c, h, rfl⟩, rfl⟩; exact ⟨⟨_, rfl⟩, q c h⟩)
end
/-- ways that meet again -/
def Meets {σ : Type} (alx : σ → Sl) (Mx : σ → Mem) (I : σ → Prop) (al : Sl) (M : Mem) : Prop := ∃ x, I x ∧ SLe al (alx x) ∧ MLe M (Mx x)
theorem c_join {ro : Option Nat} {P : Program} {n : Nat} {ks : List Kont} {Q : Exit → Sl → Mem → Prop} {c c0 : Code} {al : Sl} {M : Mem} {σ : Type} (alx : σ → Sl) (Mx : σ → Mem) (I : σ → Prop) (h : ACode ro P n c (after ro P n [.lp (Meets alx Mx I)] (after ro P n (.code c0 :: ks) Q)) al M) (k : ∀ x, I x → AGo ro P n (.code c0 :: ks) Q (alx x) (Mx x)) : ACode ro P n c (after ro P n (.code c0 :: ks) Q) al M := by
  refine ACode.mono h ?_
  intro e al M he
  cases e with
  | normal =>
    obtain ⟨x, h1, h2, h3⟩ := he
    exact ACode.le h2 h3 (k x h1)
  | exit id => exact he
  | goto l => exact he
  | ret => exact he
  | panic c => exact he
  | outgrown => exact he
theorem x_sub {ro : Option Nat} {P : Program} {n : Nat} {ks : List Kont} {Q : Exit → Sl → Mem → Prop} {id : Nat} {al : Sl} {M : Mem} (h : AX ro P n ks Q id al M) : AX ro P n [] (after ro P n ks Q) id al M := h
theorem c_retj {ro : Option Nat} {P : Program} {n : Nat} {ks ks' : List Kont} {Q : Exit → Sl → Mem → Prop} {al : Sl} {M : Mem} (h : Q .ret al M) : ACode ro P n .ret (after ro P n ks' (after ro P n ks Q)) al M := c_ret (by rw [after_ret]; exact h)
/-- a variable that is never written again -/
theorem c_fixl {ro : Option Nat} {P : Program} {n : Nat} {ks : List Kont} {Q : Exit → Sl → Mem → Prop} {c : Code} {al : Sl} {M : Mem} (t i : Nat) {b : Nat} {cs : List AV} (ht : al.lookup t = some (.ptr b 0)) (hm : M[i]? = some (.loc b cs)) (h : ACode ro P n c (after ro P n ks Q) ((t, .cptr cs) :: al) (M.eraseIdx i)) : ACode ro P n c (after ro P n ks Q) al M := by
  intro B F Mf a w hi hsl
  have hi2 := hi.perm ((perm_at hm).append_right Mf)
  rw [List.cons_append] at hi2
  obtain ⟨hB, hF, vs, T, hb, hr, h1⟩ := hi2.ok _ (List.mem_cons_self)
  have hfar := hi2.far
  rw [List.pairwise_cons] at hfar
  have hext : Ext F (F.new b vs) := by
    intro b' j x hx
    unfold EH.new
    split
    · rename_i e; subst e; rw [hF j] at hx; simp at hx
    · exact hx
  have hinv : Inv B (F.new b vs) (M.eraseIdx i ++ Mf) w := by
    refine ⟨hi.base, fun b' j x hx => ?_, fun r hr' => ?_, hfar.2⟩
    · unfold EH.new at hx
      split at hx
      · rename_i e; subst e
        rw [cell_block hb]; exact hx
      · exact hi.fix b' j x hx
    · refine (hi2.ok r (List.mem_cons_of_mem _ hr')).stay hext (fun b' hb' => ⟨rfl, fun j => ?_⟩)
      unfold EH.new
      rw [if_neg]
      intro e
      subst e
      rcases hfar.1 r hr' with k | k
      · simp [Res.blk] at k
      · exact k hb'.symm
  have := h B (F.new b vs) Mf a w hinv ⟨hsl.1, fun t' v' e => ?_⟩
  · exact Code.wpIn_mono (fun e a w hp => PostD.next (Ds := []) hext (Below.refl _ _) hp) this
  · by_cases q : t' = t
    · subst q
      simp at e
      subst e
      obtain ⟨h4, h5⟩ := hsl.2 t' _ ht
      refine ⟨h4, ?_⟩
      generalize a.tmps.getD t' undef = y at h5
      cases h5
      exact .cptr b 0 (EH.new_lies F b vs) (hr.mono hext) h1
    · have : (t' == t) = false := by simpa using q
      rw [List.lookup, this] at e
      exact ⟨(hsl.2 t' v' e).1, (hsl.2 t' v' e).2.mono hext⟩
end Go.Proofs.Ytflkdojahfmbnaa
