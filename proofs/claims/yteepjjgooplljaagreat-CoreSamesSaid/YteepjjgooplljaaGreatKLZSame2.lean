/- Parts of a proof: The logic of trees, part 13: a slice of a slice, an element of an array.; The logic of trees, part 14: array literals.; The logic of trees, part 16: pointers into rows: index, load, store; appending to a row, its block known; a part of a row as a source; arrays within a variable.; The logic of trees, part 17: calls that take pieces of the memory along, by their places. -/
import Derived.Test.YteepjjgooplljaaGreatKLZSame1
set_option maxRecDepth 100000
set_option maxHeartbeats 4000000
namespace Go.Proofs.YteepjjgooplljaaGreat
open Go.RowKit
section
variable {P : Program} {o : Oper} {al : Sl} {M : Mem} {K : AV → Mem → Prop}
theorem Rel.cap {F : EH} {m : Nat} {es : List (List AV)} {u : Value} (h : Rel F (.seq m es) u) : ∃ ao cap, u = .slice ao es.length cap ∧ es.length ≤ cap := by
 cases h with
 | seq0 _ ao cap hc => exact ⟨ao, cap, rfl, by simp⟩
 | seq b off cap hm hn hl h h1 hc => exact ⟨_, cap, rfl, hc⟩
theorem ev_int {n : Nat} {F : EH} {a : Act} {x : Operand} {ik : IntKind} {j : Int} (hs : Slots n F al a.tmps) (h : al.ev x = some (.val (.int ik j))) : a.eval x = .int ik j := Yt hs h
theorem op_index_av {x y : Operand} {t e : TypeId} {ik : IntKind} {len m i : Nat} {j : Int} {cs cs' : List AV} (ho : o.op = .index t x y) (ht : P.underlying t = some (.array len e)) (he : tyAgg P e = some (some m)) (hx : al.ev x = some (.agg cs)) (hy : al.ev y = some (.val (.int ik j))) (hj : j = i) (hlt : i < len) (hc : (cs.drop (i * m)).take m = cs') (q : K (.agg cs') M) : OpT P o al M K :=
 OpT.plain fun n B F Mf ac w hi hs => by
  have h := hs.ev hx
  have h2 := ev_int hs hy
  generalize hu : ac.eval x = u at h
  cases h with
  | agg h h1 =>
   rename_i vs
   have hr := (h.drop (i * m)).take m
   rw [hc] at hr
   refine ⟨.agg ((vs.drop (i * m)).take m).toArray, _, ?_, q, .agg hr (fun v hv => h1 v (List.mem_of_mem_drop (List.mem_of_mem_take hv)))⟩
   subst hj
   obtain ⟨a1, a2⟩ := tyAgg_some he w
   simp [execOp, ho, hu, h2, Instr.index, asIntOf, underlying, ht, hlt, a1, a2, part, List.take_drop, Nat.add_comm]
end
def bldF (size : Nat) : List AV → List (Nat × AV) → Option (List AV)
 | cs, [] => some cs
 | cs, (i, v) :: rest => if v.cells.length = size ∧ i * size + size ≤ cs.length ∧ v.flat = true then bldF size (setL cs (i * size) v.cells) rest else none
theorem bldF_run {F : EH} {size : Nat} : ∀ (ps : List (Nat × AV)) (qs : List (Nat × Value)) (cs : List AV) (vs : List Value) (cs' : List AV), Rels F cs vs → Ones vs → ps.map (·.1) = qs.map (·.1) → Rels F (ps.map (·.2)) (qs.map (·.2)) → bldF size cs ps = some cs' →
    ∃ vs', Instr.fill (fun i => some (i * size, size)) vs.toArray qs = some vs'.toArray ∧ Rels F cs' vs' ∧ Ones vs'
 | [], [], cs, vs, cs', h, h1, _, _, hb => by
  simp [bldF] at hb; subst hb
  exact ⟨vs, by simp [Instr.fill], h, h1⟩
 | [], _ :: _, _, _, _, _, _, h, _, _ => by simp at h
 | _ :: _, [], _, _, _, _, _, h, _, _ => by simp at h
 | (i, v) :: ps, (j, u) :: qs, cs, vs, cs', h, h1, hk, hr, hb => by
  simp only [List.map_cons, List.cons.injEq] at hk
  obtain ⟨rfl, hk⟩ := hk
  simp only [List.map_cons] at hr
  cases hr with
  | cons hr hrs =>
   rw [bldF] at hb
   split at hb
   ·rename_i hc
    obtain ⟨c1, c2, c3⟩ := hc
    obtain ⟨k1, k2⟩ := hr.cells c3
    have hlen := h.len
    obtain ⟨vs', q1, q2, q3⟩ := bldF_run ps qs _ (setL vs (i * size) u.cells.toList) cs' (k1.setL (i * size) h) (setL_one _ _ _ k2 h1) hk hrs hb
    refine ⟨vs', ?_, q2, q3⟩
    rw [fill_one _ vs i (i * size) size u qs rfl (by have := k1.len; simp at this; omega) (by omega)]
    exact q1
   ·simp at hb
theorem Le.own_lessA {u : Value} {m : Nat} {as bs : List (List AV)} (h : Less as bs) : Le (.own u m as) (.own u m bs) := fun F x k => by
 cases k with
 | own _ k => exact .own _ (Le.seq h F _ k)
theorem Less.app : ∀ {a b c d : List (List AV)}, Less a b → Less c d → Less (a ++ c) (b ++ d)
 | _, _, _, _, .nil, k => k
 | _, _, _, _, .cons h e hs, k => .cons h e (Less.app hs k)
theorem Le.beq {a b : Bool} (h : a = b) : Le (.val (.bool a)) (.val (.bool b)) := by subst h; exact Le.refl _
theorem Le.ieq {k : IntKind} {a b : Int} (h : a = b) : Le (.val (.int k a)) (.val (.int k b)) := by subst h; exact Le.refl _
section
variable {P : Program} {o : Oper} {al : Sl} {M : Mem} {K : AV → Mem → Prop}
theorem op_build_arr {t e : TypeId} {z : Value} {len size : Nat} {parts : Array (Nat × Operand)} {ns : List Nat} {xs : List Operand} {vs : List AV} {cs' : List AV} (ho : o.op = .build t parts) (hz : tyZero P t = some z) (hzf : (AV.val z).flat = true) (hu : P.underlying t = some (.array len e)) (hs : (P.info? e).map (·.size) = some size) (hp : parts.toList = ns.zip xs) (hlen : ns.length = xs.length) (hx : xs.mapM al.ev = some vs) (hb : bldF size (AV.val z).cells (ns.zip vs) = some cs')
    (q : K (.agg cs') M) : OpT P o al M K :=
 OpT.plain fun n B F Mf a w hi hsl => by
  have hr := Rels.map_ev hsl hx
  have hln := hr.len
  simp only [List.length_map] at hln
  obtain ⟨z1, z2⟩ := (Rel.val (F := F) z).cells hzf
  obtain ⟨vs', q1, q2, q3⟩ := bldF_run (size := size) (ns.zip vs) (ns.zip (xs.map a.eval)) _ _ cs' z1 z2 (by
   rw [List.map_fst_zip (by omega), List.map_fst_zip (by simp; omega)]) (by
   rw [List.map_snd_zip (by omega), List.map_snd_zip (by simp; omega)]; exact hr) hb
  refine ⟨.agg vs'.toArray, _, ?_, q, .agg q2 q3⟩
  have hparts : (parts.map (fun x => (x.1, a.eval x.2))).toList = ns.zip (xs.map a.eval) := by
   rw [Array.toList_map, hp, List.zip_map_right]
   rfl
  obtain ⟨inf, hinf, rfl⟩ := Option.map_eq_some_iff.1 hs
  unfold execOp
  simp only [ho, Instr.build, Sem.run_bind, tyZero_run hz, Result.andThen_ok, run_underlying hu]
  simp only [sizeOf, typeInfo, Sem.run_bind, run_program, Result.andThen_ok, hinf, hparts]
  simp only [Array.toArray_toList] at q1
  simp [q1]
end
abbrev rowv (g n cap : Nat) : Value := .slice (some ⟨g, 0, none⟩) n cap
theorem Inv.put {B : Nat} {F : EH} {M Mf : Mem} {w w' : World} {i b : Nat} {r0 r1 : Res} (hi : Inv B F (M ++ Mf) w) (hm : M[i]? = some r0) (hb0 : r0.blk = some b) (hb1 : r1.blk = some b) (hF : ∀ j, F b j = none) (hr1 : r1.Ok B F w') (hk : ∀ k, k ≠ b → w'.heap[k]? = w.heap[k]?) (hsz : w'.heap.size = w.heap.size) : Inv B F (M.set i r1 ++ Mf) w' := by
 have hil := get_lt hm
 have hi2 := hi.perm ((perm_at hm).append_right Mf)
 rw [List.cons_append] at hi2
 have hfar := hi2.far
 rw [List.pairwise_cons] at hfar
 have h : Inv B F (r1 :: (M.eraseIdx i ++ Mf)) w' := by
  refine ⟨by rw [hsz]; exact hi.base, fun c j x h => ?_, fun r hr => ?_, List.pairwise_cons.2 ⟨fun r hr => ?_, hfar.2⟩⟩
  ·have hne : c ≠ b := fun e => by subst e; rw [hF j] at h; simp at h
   rw [World.cell?_of_block (w := w) (hk c hne)]
   exact hi.fix c j x h
  ·rcases List.mem_cons.1 hr with rfl | hr
   ·exact hr1
   ·refine (hi2.ok r (List.mem_cons_of_mem _ hr)).stay (Ext.refl F) (fun c hc => ⟨hk c ?_, fun _ => rfl⟩)
    intro e
    subst e
    rcases hfar.1 r hr with k | k
    ·rw [hb0] at k; simp at k
    ·exact k (by rw [hb0, hc])
  ·right
   rw [hb1]
   rcases hfar.1 r hr with k | k
   ·rw [hb0] at k; simp at k
   ·rw [hb0] at k; exact k
 refine h.perm ?_
 rw [← List.cons_append]
 exact ((perm_set _ hil).append_right Mf).symm
structure RowAt (B : Nat) (F : EH) (w : World) (e : TypeId) (m g n cap : Nat) (es : List (List AV)) (cur : Array Value) : Prop where
 len : n = es.length
 ge : B ≤ g
 no : ∀ i, F g i = none
 wid : ∀ x ∈ es, x.length = m
 at_ : w.heap[g]? = some (.cells cur e (0, 0))
 fit : n ≤ cap
 max : cap ≤ maxLen
 siz : cur.size = cap * m
 rel : Rels F es.flatten (cur.toList.take (n * m))
 one : Ones (cur.toList.take (n * m))
theorem Res.Ok.row {B : Nat} {F : EH} {w : World} {e : TypeId} {m g n cap : Nat} {es : List (List AV)} (h : (Res.row e m (rowv g n cap) es).Ok B F w) : ∃ cur, RowAt B F w e m g n cap es cur := by
 obtain ⟨xs, hown, hslack, hrx, hox, hwx⟩ := h
 have hn := hown.1
 rcases hown.2 with ⟨q, _⟩ | ⟨g', cap', cur, q, hbg, hg, hnc, hcm, hcs, htake⟩
 ·simp at q
 ·simp only [Value.slice.injEq, Option.some.injEq, Addr.mk.injEq, and_true] at q
  obtain ⟨rfl, rfl, rfl⟩ := q
  refine ⟨cur, rfl, hbg, fun i => hslack g i rfl, hwx, hg, hnc, hcm, hcs, ?_, ?_⟩ <;> rw [htake] <;> assumption
theorem RowAt.ok {B : Nat} {F : EH} {w : World} {e : TypeId} {m g n cap : Nat} {es : List (List AV)} {cur : Array Value} (h : RowAt B F w e m g n cap es cur) : (Res.row e m (rowv g n cap) es).Ok B F w := by
 obtain ⟨h1, h2, h3, h4, h5, h6, h7, h8, h9, h10⟩ := h
 subst h1
 refine ⟨cur.toList.take (es.length * m), ⟨?_, .inr ⟨g, cap, cur, rfl, h2, h5, h6, h7, h8, rfl⟩⟩, fun g' i hg => ?_, h9, h10, h4⟩
 ·rw [List.length_take]
  have : es.length * m ≤ cap * m := Nat.mul_le_mul_right _ h6
  have h8' : cur.toList.length = cap * m := h8
  omega
 ·simp [Value.ownBlock] at hg; subst hg; exact h3 i
theorem RowAt.cell {B : Nat} {F : EH} {w : World} {e : TypeId} {m g n cap : Nat} {es : List (List AV)} {cur : Array Value} (h : RowAt B F w e m g n cap es cur) {j : Nat} (hj : j < n * m) : w.cell? ⟨g, j, none⟩ = (cur.toList.take (n * m))[j]? := by
 unfold World.cell?
 simp [h.at_, hj]
section
variable {P : Program} {al : Sl} {M : Mem} {K : AV → Mem → Prop} {o : Oper}
end
def pick : List Nat → Mem → Option (Mem × Mem)
 | [], M => some ([], M)
 | i :: is, M => match M[i]? with
  | none => none
  | some r => match pick is (M.eraseIdx i) with
   | none => none
   | some p => some (r :: p.1, p.2)
theorem pick_perm : ∀ {is : List Nat} {M M1 M2 : Mem}, pick is M = some (M1, M2) → M.Perm (M1 ++ M2)
 | [], M, M1, M2, h => by simp [pick] at h; obtain ⟨rfl, rfl⟩ := h; exact .refl _
 | i :: is, M, M1, M2, h => by
  rw [pick] at h
  split at h
  ·cases h
  ·rename_i r hr
   split at h
   ·cases h
   ·rename_i p hp
    simp only [Option.some.injEq, Prod.mk.injEq] at h
    obtain ⟨rfl, rfl⟩ := h
    exact (perm_at hr).trans ((pick_perm (M1 := p.1) (M2 := p.2) (by rw [hp])).cons _)
section
variable {P : Program} {al : Sl} {M : Mem} {K : AV → Mem → Prop} {o : Oper}
theorem op_callat {f : FuncId} {xs : List Operand} {ts : Array TypeId} {vs vs' : List AV} (is : List Nat) {M1 M2 : Mem} {R : AV → Mem → Prop} (ho : o.op = .call { callee := .value (.func f), args := xs.toArray, argTypes := ts }) (hx : xs.mapM al.ev = some vs) (hp : pick is M = some (M1, M2)) (hc : ACall P f vs' M1 R) (hl : Les vs vs') (q : ∀ v M', R v M' → K v (M' ++ M2)) : OpT P o al M K :=
 op_callg ho hx hc hl (pick_perm hp) q
theorem Le.sle {a : Addr} {n n' c c' : Nat} (h : n = n') (k : c = c') : Le (.val (.slice (some a) n c)) (.val (.slice (some a) n' c')) := by rw [h, k]; exact Le.refl _
theorem MLe.pre : ∀ M M2 : Mem, MLe (M ++ M2) M
 | [], _ => MLe.none _
 | r :: M, M2 => .cons r (MLe.pre M M2)
inductive IsPtr : AV → Prop
 | m (b off : Nat) : IsPtr (.ptr b off)
 | c (cs : List AV) : IsPtr (.cptr cs)
theorem IsPtr.rel {v : AV} (h : IsPtr v) {F : EH} {u : Value} (hr : Rel F v u) : ∃ a, u = .pointer (some a) := by
 cases h <;> cases hr <;> exact ⟨_, rfl⟩
end
end Go.Proofs.YteepjjgooplljaaGreat
