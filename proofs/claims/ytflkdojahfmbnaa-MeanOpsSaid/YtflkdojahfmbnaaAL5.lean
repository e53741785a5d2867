/- A logic of trees, part 5: literals, make, sub-slices, and cells that become eternal. -/
import Derived.Test.YtflkdojahfmbnaaAL4
namespace Go.Proofs.Ytflkdojahfmbnaa
open Go.RowKit
/-- places that are counted -/
def idx {α : Type} : Nat → List α → List (Nat × α)
  | _, [] => []
  | k, x :: xs => (k, x) :: idx (k + 1) xs
theorem idx_map {α β : Type} (f : α → β) : ∀ (k : Nat) (xs : List α), (idx k xs).map (fun x => (x.1, f x.2)) = idx k (xs.map f)
  | _, [] => rfl
  | k, x :: xs => by simp [idx, idx_map f (k + 1) xs]
theorem setL_app {α : Type} : ∀ (xs pre rest : List α), xs.length ≤ rest.length → setL (pre ++ rest) pre.length xs = pre ++ xs ++ rest.drop xs.length
  | [], pre, rest, _ => by simp [setL]
  | x :: xs, pre, [], h => by simp at h
  | x :: xs, pre, r :: rest, h => by
    have h2 := setL_app xs (pre ++ [x]) rest (by simpa using h)
    rw [setL]
    simp only [List.length_append, List.length_cons, List.length_nil, List.append_assoc, List.cons_append, List.nil_append] at h2
    rw [List.set_append_right _ _ (by omega)]
    simpa using h2
theorem fold_set : ∀ (l : List Value) (k off : Nat) (cs : Array Value), (l.zipIdx k).foldl (fun (cs : Array Value) (x : Value × Nat) => cs.setIfInBounds (off + x.2) x.1) cs = (setL cs.toList (off + k) l).toArray
  | [], k, off, cs => by simp [setL]
  | x :: l, k, off, cs => by
    rw [List.zipIdx_cons, List.foldl_cons, fold_set l (k + 1) off, setL]
    simp [Nat.add_assoc]
theorem fill_one (place : Nat → Option (Nat × Nat)) (cs : List Value) (i off size : Nat) (v : Value) (rest : List (Nat × Value)) (hp : place i = some (off, size)) (hv : v.cells.size = size) (hl : off + size ≤ cs.length) :
    Instr.fill place cs.toArray ((i, v) :: rest) = Instr.fill place (setL cs off v.cells.toList).toArray rest := by
  rw [Instr.fill]
  simp only [hp]
  rw [if_neg (by simp [hv]; omega)]
  congr 1
  have := fold_set v.cells.toList 0 off cs.toArray
  rw [Nat.add_zero] at this
  rw [← this]
  simp only [← Array.foldl_toList, Array.toList_zipIdx]
theorem fill_row {size : Nat} : ∀ (vs : List Value) (k : Nat) (pre rest : List Value), pre.length = k * size → rest.length = vs.length * size → (∀ v ∈ vs, v.cells.size = size) →
    Instr.fill (fun i => some (i * size, size)) (pre ++ rest).toArray (idx k vs) = some (pre ++ (vs.map (fun v => v.cells.toList)).flatten).toArray
  | [], k, pre, rest, _, h, _ => by
    have : rest = [] := List.eq_nil_of_length_eq_zero (by simpa using h)
    subst this
    simp [idx, Instr.fill]
  | v :: vs, k, pre, rest, h1, h2, h3 => by
    have hv := h3 v (by simp)
    have hl : v.cells.toList.length = size := by simpa using hv
    simp only [List.length_cons, Nat.add_mul, Nat.one_mul] at h2
    rw [idx, fill_one _ _ k (k * size) size v _ rfl hv (by simp; omega), ← h1, setL_app _ _ _ (by omega)]
    rw [fill_row vs (k + 1) (pre ++ v.cells.toList) (rest.drop v.cells.toList.length) (by simp only [List.length_append, hl, h1, Nat.add_mul, Nat.one_mul]) (by simp only [List.length_drop, hl]; omega) (fun x hx => h3 x (by simp [hx]))]
    simp
section
variable {P : Program} {al : Sl} {M : Mem} {K : AV → Mem → Prop} {o : Oper}
theorem Rels.rows {F : EH} : ∀ {vs : List AV} {us : List Value}, Rels F vs us → (∀ v ∈ vs, v.flat = true) → Rels F (vs.map AV.cells).flatten (us.map (fun u => u.cells.toList)).flatten ∧ Ones (us.map (fun u => u.cells.toList)).flatten
  | _, _, .nil, _ => ⟨.nil, by intro v hv; simp at hv⟩
  | _, _, .cons h hs, hf => by
    obtain ⟨h1, h2⟩ := h.cells (hf _ (by simp))
    obtain ⟨h3, h4⟩ := Rels.rows hs (fun v hv => hf v (by simp [hv]))
    refine ⟨by simpa using h1.app h3, fun x hx => ?_⟩
    rw [List.map_cons, List.flatten_cons] at hx
    rcases List.mem_append.1 hx with q | q
    · exact h2 x q
    · exact h4 x q
theorem Rels.sizes {F : EH} {m : Nat} : ∀ {vs : List AV} {us : List Value}, Rels F vs us → (∀ v ∈ vs, v.flat = true) → (∀ v ∈ vs, v.cells.length = m) → ∀ u ∈ us, u.cells.size = m
  | _, _, .nil, _, _ => by simp
  | _, _, .cons h hs, hf, hm => by
    intro u hu
    rcases List.mem_cons.1 hu with rfl | hu
    · have := (h.cells (hf _ (by simp))).1.len
      rw [hm _ (by simp)] at this
      simpa using this.symm
    · exact Rels.sizes hs (fun v hv => hf v (by simp [hv])) (fun v hv => hm v (by simp [hv])) u hu
/-- a row of the call's own, new: its length is its room -/
theorem Inv.newOwn {B : Nat} {F : EH} {M : Mem} {w : World} (hi : Inv B F M w) {e : TypeId} {m n : Nat} {vs : List Value} (hl : vs.length = n * m) (hn : n ≤ maxLen) : Inv B (F.new w.heap.size vs) (.own e m (.slice (some ⟨w.heap.size, 0, none⟩) n n) :: M) (w.alloc (.cells vs.toArray e)) := by
  have h := hi.newFix vs e
  refine ⟨h.base, h.fix, fun r hr => ?_, List.pairwise_cons.2 ⟨fun r hr => ?_, h.far⟩⟩
  · rcases List.mem_cons.1 hr with rfl | hr
    · refine ⟨n, vs, ⟨hl, .inr ⟨w.heap.size, n, vs.toArray, rfl, hi.base, by rw [alloc_get, if_pos rfl], Nat.le_refl _, hn, by simpa using hl, by simp [← hl]⟩⟩, fun g i hg hin => ?_⟩
      simp [Value.ownBlock] at hg
      subst hg
      unfold EH.new
      rw [if_pos rfl, List.getElem?_eq_none (by omega)]
    · exact h.ok r hr
  · right
    intro q
    have := (hi.ok r hr).lt (b := w.heap.size) (by rw [← q]; rfl)
    omega
theorem run_buildSlice {w : World} {t e : TypeId} {z : Value} {m bytes : Nat} (E : ElT P t e z m bytes) (us : List Value) (hn : us.length * m ≤ 16777216) (hs : ∀ u ∈ us, u.cells.size = m) :
    (Instr.buildSlice t us.length (idx 0 us).toArray).run P w = .ok (.slice (some ⟨w.heap.size, 0, none⟩) us.length us.length) (w.alloc (.cells (us.map (fun u => u.cells.toList)).flatten.toArray e)) := by
  obtain ⟨i, hi, hz, rfl, _⟩ := info_parts E.info
  have hzr : (zeroValue e).run P w = .ok z w := tyZero_run (by simp [tyZero, hi, hz]) w
  have hfill : ∀ zs : Array Value, zs.size = us.length * i.size → Instr.fill (fun j => some (j * i.size, i.size)) zs (idx 0 us) = some (us.map (fun u => u.cells.toList)).flatten.toArray := by
    intro zs hzs
    have := fill_row us 0 [] zs.toList (by simp) (by simpa using hzs) hs
    simpa using this
  unfold Instr.buildSlice
  simp only [Sem.run_bind, run_underlying E.und, Result.andThen_ok, sizeOf, typeInfo, run_program, hi, Sem.run_pure]
  rw [if_neg (by omega)]
  by_cases h0 : us.length * i.size = 0
  · rw [if_pos h0]
    simp only [Sem.run_bind, Sem.run_pure, Result.andThen_ok]
    rw [hfill _ (by simp [h0])]
    simp [newRow]
  · rw [if_neg h0]
    simp only [Sem.run_bind, hzr, Result.andThen_ok, Sem.run_pure]
    rw [hfill _ (by simp)]
    simp [newRow]
theorem op_buildSlice_own {t e : TypeId} {z : Value} {m bytes len : Nat} {parts : Array (Nat × Operand)} {xs : List Operand} {vs : List AV} (E : ElT P t e z m bytes) (ho : o.op = .buildSlice t len parts) (hp : parts.toList = idx 0 xs) (hlen : xs.length = len) (hx : xs.mapM al.ev = some vs) (hf : vs.all (·.flat) = true) (hc : vs.all (fun v => v.cells.length == m) = true) (hn : len * m ≤ 16777216)
    (q : ∀ u, K (.own u m (vs.map AV.cells)) (.own e m u :: M)) : OpT P o al M K := by
  intro n B F Mf a w hi hsl ro
  have hf : ∀ v ∈ vs, v.flat = true := List.all_eq_true.1 hf
  have hc : ∀ v ∈ vs, v.cells.length = m := fun v hv => by simpa using List.all_eq_true.1 hc v hv
  have hr := Rels.map_ev hsl hx
  have hsz := Rels.sizes hr hf hc
  obtain ⟨h1, h2⟩ := Rels.rows hr hf
  have hln : vs.length = len := by rw [← hlen]; simpa using hr.len
  have hrun := run_buildSlice (P := P) (w := w) E (xs.map a.eval) (by simpa [hlen] using hn) hsz
  have hparts : parts.map (fun x => (x.1, a.eval x.2)) = (idx 0 (xs.map a.eval)).toArray := by
    rw [← Array.toList_inj, Array.toList_map, hp, idx_map]
  have e1 : (execOp a.eval o).run P w = .ok (.value (.slice (some ⟨w.heap.size, 0, none⟩) len len)) (w.alloc (.cells ((xs.map a.eval).map (fun u => u.cells.toList)).flatten.toArray e)) := by
    simp only [List.length_map, hlen] at hrun
    simp only [execOp, ho, hparts, Sem.run_bind, hrun, Result.andThen_ok, Sem.run_pure]
  have hwide : ∀ x ∈ vs.map AV.cells, x.length = m := by
    intro x hx
    obtain ⟨v, hv, rfl⟩ := List.mem_map.1 hx
    exact hc v hv
  have hl3 : ((xs.map a.eval).map (fun u => u.cells.toList)).flatten.length = len * m := by rw [← h1.len, flat_len hwide]; simp [hln]
  have hpos := E.pos
  have hlm : len ≤ maxLen := by
    have h5 : len * 1 ≤ len * m := Nat.mul_le_mul_left len hpos
    unfold maxLen; omega
  refine wpR_value e1 ⟨_, .own (.slice (some ⟨w.heap.size, 0, none⟩) len len) m (vs.map AV.cells), _, _, rfl, q _, ?_, EH.new_ext hi _, hi.newOwn hl3 hlm, alloc_below _ hi.base⟩
  refine .own _ ?_
  have := Rel.seq (F := F.new w.heap.size ((xs.map a.eval).map (fun u => u.cells.toList)).flatten) (m := m) (es := vs.map AV.cells) w.heap.size 0 len hwide (by simpa [hln] using hlm) (EH.new_lies _ _ _) (h1.mono (EH.new_ext hi _)) h2 (by simp [hln])
  simpa [hln] using this
theorem op_buildSlice {t e : TypeId} {z : Value} {m bytes len : Nat} {parts : Array (Nat × Operand)} {xs : List Operand} {vs : List AV} (E : ElT P t e z m bytes) (ho : o.op = .buildSlice t len parts) (hp : parts.toList = idx 0 xs) (hlen : xs.length = len) (hx : xs.mapM al.ev = some vs) (hf : vs.all (·.flat) = true) (hc : vs.all (fun v => v.cells.length == m) = true) (hn : len * m ≤ 16777216)
    (q : K (.seq m (vs.map AV.cells)) M) : OpT P o al M K := by
  intro n B F Mf a w hi hsl ro
  refine Oper.wpIn_mono ?_ (op_buildSlice_own (K := fun v M' => ∃ u, v = .own u m (vs.map AV.cells) ∧ M' = .own e m u :: M) E ho hp hlen hx hf hc hn (fun u => ⟨u, rfl, rfl⟩) n B F Mf a w hi hsl ro)
  rintro a' w' ⟨u, v, M', F', h1, ⟨u', rfl, rfl⟩, h3, h4, h5, h6⟩
  exact ⟨u, _, M, F', h1, q, Le.own _ _ _ _ _ h3, h4, h5.sub (by simp), h6⟩
/-- a struct's fields: places and sizes -/
def tyFlds (P : Program) (t : TypeId) : Option (List (Nat × Nat)) :=
  match P.underlying t with
  | some (.struct fs) => fs.toList.mapM fun f => (P.info? f.type).map fun i => (f.offset, i.size)
  | _ => none
def bldA (fl : List (Nat × Nat)) : List AV → List (Nat × AV) → Option (List AV)
  | cs, [] => some cs
  | cs, (i, v) :: rest => match fl[i]? with
    | some (off, size) => if v.cells.length = size ∧ off + size ≤ cs.length ∧ v.flat = true then bldA fl (setL cs off v.cells) rest else none
    | none => none
theorem bldA_run {F : EH} {fl : List (Nat × Nat)} {places : Array (Nat × Nat)} (hpl : places.toList = fl) : ∀ (ps : List (Nat × AV)) (qs : List (Nat × Value)) (cs : List AV) (vs : List Value) (cs' : List AV), Rels F cs vs → Ones vs → ps.map (·.1) = qs.map (·.1) → Rels F (ps.map (·.2)) (qs.map (·.2)) → bldA fl cs ps = some cs' →
    ∃ vs', Instr.fill (places[·]?) vs.toArray qs = some vs'.toArray ∧ Rels F cs' vs' ∧ Ones vs'
  | [], [], cs, vs, cs', h, h1, _, _, hb => by
    simp [bldA] at hb; subst hb
    exact ⟨vs, by simp [Instr.fill], h, h1⟩
  | [], _ :: _, _, _, _, _, _, h, _, _ => by simp at h
  | _ :: _, [], _, _, _, _, _, h, _, _ => by simp at h
  | (i, v) :: ps, (j, u) :: qs, cs, vs, cs', h, h1, hk, hr, hb => by
    simp only [List.map_cons, List.cons.injEq] at hk
    obtain ⟨rfl, hk⟩ := hk
    simp only [List.map_cons] at hr
    cases hr with
    | cons hr hrs =>
      rw [bldA] at hb
      split at hb
      · rename_i off size hfl
        split at hb
        · rename_i hc
          obtain ⟨c1, c2, c3⟩ := hc
          obtain ⟨k1, k2⟩ := hr.cells c3
          have hlen := h.len
          obtain ⟨vs', q1, q2, q3⟩ := bldA_run hpl ps qs _ (setL vs off u.cells.toList) cs' (k1.setL off h) (setL_one _ _ _ k2 h1) hk hrs hb
          refine ⟨vs', ?_, q2, q3⟩
          rw [fill_one _ vs i off size u qs (by rw [← hpl] at hfl; simpa using hfl) (by have := k1.len; simp at this; omega) (by omega)]
          exact q1
        · simp at hb
      · simp at hb
theorem tyFlds_run {t : TypeId} {fl : List (Nat × Nat)} (h : tyFlds P t = some fl) (w : World) : ∃ fs : Array Field, P.underlying t = some (.struct fs) ∧ ∃ places : Array (Nat × Nat), places.toList = fl ∧ (fs.mapM fun f => do pure (f.offset, ← sizeOf f.type) : Sem (Array (Nat × Nat))).run P w = .ok places w := by
  unfold tyFlds at h
  split at h <;> first | (simp at h; done) | skip
  rename_i fs hu
  refine ⟨fs, hu, fl.toArray, rfl, ?_⟩
  have key : ∀ (l : List Field) (fl : List (Nat × Nat)), l.mapM (fun f => (P.info? f.type).map fun i => (f.offset, i.size)) = some fl → (l.mapM fun f => do pure (f.offset, ← sizeOf f.type) : Sem (List (Nat × Nat))).run P w = .ok fl w := by
    intro l
    induction l with
    | nil => intro fl h; simp at h; subst h; simp
    | cons f l ih =>
      intro fl h
      simp only [List.mapM_cons, Option.bind_eq_bind, Option.bind_eq_some_iff, Option.pure_def, Option.some.injEq] at h
      obtain ⟨p, h1, ps, h2, rfl⟩ := h
      obtain ⟨i, hi, rfl⟩ := Option.map_eq_some_iff.1 h1
      rw [List.mapM_cons]
      simp only [Sem.run_bind, sizeOf, typeInfo, run_program, Result.andThen_ok, hi, Sem.run_pure]
      have := ih ps h2
      simp only [sizeOf, typeInfo] at this
      rw [this]
      rfl
  rw [Array.mapM_eq_mapM_toList, Sem.run_map, key fs.toList fl h]
  rfl
theorem op_build {t : TypeId} {z : Value} {fl : List (Nat × Nat)} {parts : Array (Nat × Operand)} {ns : List Nat} {xs : List Operand} {vs : List AV} {cs' : List AV} (ho : o.op = .build t parts) (hz : tyZero P t = some z) (hzf : (AV.val z).flat = true) (hfl : tyFlds P t = some fl) (hp : parts.toList = ns.zip xs) (hlen : ns.length = xs.length) (hx : xs.mapM al.ev = some vs) (hb : bldA fl (AV.val z).cells (ns.zip vs) = some cs')
    (q : K (.agg cs') M) : OpT P o al M K :=
  OpT.plain fun n B F Mf a w hi hsl => by
    have hr := Rels.map_ev hsl hx
    have hln := hr.len
    simp only [List.length_map] at hln
    obtain ⟨z1, z2⟩ := (Rel.val (F := F) z).cells hzf
    obtain ⟨fs, hu, places, hpl, hrun⟩ := tyFlds_run hfl w
    obtain ⟨vs', q1, q2, q3⟩ := bldA_run hpl (ns.zip vs) (ns.zip (xs.map a.eval)) _ _ cs' z1 z2 (by
      rw [List.map_fst_zip (by omega), List.map_fst_zip (by simp; omega)]) (by
      rw [List.map_snd_zip (by omega), List.map_snd_zip (by simp; omega)]; exact hr) hb
    refine ⟨.agg vs'.toArray, _, ?_, q, .agg q2 q3⟩
    have hparts : (parts.map (fun x => (x.1, a.eval x.2))).toList = ns.zip (xs.map a.eval) := by
      rw [Array.toList_map, hp, List.zip_map_right]
      rfl
    unfold execOp
    simp only [ho, Instr.build, Sem.run_bind, tyZero_run hz, Result.andThen_ok, run_underlying hu]
    rw [hrun]
    simp only [Result.andThen_ok, hparts]
    simp only [Array.toArray_toList] at q1
    rw [q1]
    simp
theorem op_makeSlice {t e : TypeId} {z : Value} {m bytes n : Nat} {x : Operand} {k : IntKind} {j : Int} (E : ElT P t e z m bytes) (ho : o.op = .makeSlice t x x) (hx : al.ev x = some (.val (.int k j))) (hj : j = n) (hn : n ≤ 100000000000) (hzf : (AV.val z).flat = true)
    (q : ∀ b, K (.arr b 0 n n) (.loc b (List.replicate n (AV.val z).cells).flatten :: M)) : OpT P o al M K := by
  intro n' B F Mf a w hi hsl ro
  subst hj
  have he := ev_val hsl hx
  obtain ⟨i, hinf, hz, hsz, hby⟩ := info_parts E.info
  obtain ⟨z1, z2⟩ := (Rel.val (F := F) z).cells hzf
  have hzs := E.zs
  have hpos := E.pos
  have hsm := E.small
  have hwrap : IntKind.i64.wrap (n : Int) = n := IntWalk.i64_in _ (by omega)
  have hz0 := tyZero_run (P := P) (by simp [tyZero, hinf, hz] : tyZero P e = some z) w
  have hcells : (Array.range (n * m)).map (fun j => z.cells[j % z.cells.size]!) = (List.replicate n z.cells.toList).flatten.toArray := by
    apply Array.ext (by simp [hzs])
    intro j h1 h2
    simp only [Array.size_map, Array.size_range] at h1
    simp only [Array.getElem_map, Array.getElem_range]
    have hlt : j % z.cells.size < z.cells.size := Nat.mod_lt _ (by omega)
    rw [getElem!_pos z.cells _ hlt]
    have key : ∀ (n j : Nat) (h : j < (List.replicate n z.cells.toList).flatten.length), (List.replicate n z.cells.toList).flatten[j] = z.cells[j % z.cells.size]'(Nat.mod_lt _ (by omega)) := by
      intro n
      induction n with
      | zero => intro j h; simp at h
      | succ n ih =>
        intro j h
        simp only [List.replicate_succ, List.flatten_cons] at h ⊢
        rw [List.getElem_append]
        split
        · rename_i hj
          simp only [Array.length_toList] at hj
          simp only [Array.getElem_toList]
          congr 1
          exact (Nat.mod_eq_of_lt hj).symm
        · rename_i hj
          simp only [Array.length_toList] at hj
          rw [ih]
          congr 1
          simp only [Array.length_toList]
          rw [← Nat.mod_eq_sub_mod (by omega)]
    simpa using (key n j (by simpa using h2)).symm
  have hrels : ∀ n : Nat, Rels F (List.replicate n (AV.val z).cells).flatten (List.replicate n z.cells.toList).flatten ∧ Ones (List.replicate n z.cells.toList).flatten := by
    intro n
    induction n with
    | zero => exact ⟨.nil, by intro v hv; simp at hv⟩
    | succ n ih =>
      simp only [List.replicate_succ, List.flatten_cons]
      refine ⟨z1.app ih.1, fun v hv => ?_⟩
      rcases List.mem_append.1 hv with k | k
      · exact z2 v k
      · exact ih.2 v k
  have hbn : ¬ ((i.bytes : Int) * (n : Int) > 2 ^ 48) := by
    have h5 : i.bytes * n ≤ 1024 * 100000000000 := Nat.mul_le_mul (by omega) hn
    have h6 : ((i.bytes * n : Nat) : Int) ≤ 102400000000000 := by omega
    rw [Int.natCast_mul] at h6
    omega
  have e1 : (execOp a.eval o).run P w = .ok (.value (.slice (some ⟨w.heap.size, 0, none⟩) n n)) (w.alloc (.cells (List.replicate n z.cells.toList).flatten.toArray e)) := by
    unfold execOp
    simp only [ho, Sem.run_bind, Instr.makeSlice, run_underlying E.und, Result.andThen_ok, he, asInt, asIntOf, Sem.run_pure, typeInfo, run_program, hinf, hwrap, sizeOf]
    have hneg : ¬ ((n : Int) < 0) := by omega
    have hgt : ¬ ((n : Int) > (n : Int)) := by omega
    simp only [hneg, hbn, hgt, decide_false, Bool.or_false, Bool.false_eq_true, if_false, Sem.run_bind, run_askRoom, Result.andThen_ok, run_program, hinf, Sem.run_pure, Int.toNat_natCast, hsz]
    by_cases h0 : n * m = 0
    · have hn0 : n = 0 := by
        rcases Nat.mul_eq_zero.1 h0 with q | q
        · exact q
        · omega
      subst hn0
      have hr0 : Array.range 0 = #[] := rfl
      simp [newRow, hr0]
    · rw [if_neg h0]
      simp only [Sem.run_bind, hz0, Result.andThen_ok, Sem.run_pure, hcells]
      simp [newRow]
  exact wpR_value e1 ⟨_, _, _, F, rfl, q w.heap.size, .arr _ _ _ _ (Nat.le_refl _), Ext.refl F, hi.newLoc (hrels n).1 (hrels n).2 e, alloc_below _ hi.base⟩
/-- a block that is written no more becomes eternal: the slices over it are trees -/
theorem ACode.freeze {ro : Option Nat} {n' : Nat} {Q : Exit → Sl → Mem → Prop} {c : Code} {b n m i : Nat} {cs : List AV} {es : List (List AV)} {al' : Sl} (hm : M[i]? = some (.loc b cs)) (hc : cs = es.flatten) (hw : ∀ e ∈ es, e.length = m) (hn : es.length = n) (hmax : n ≤ maxLen)
    (hs : ∀ t v', al'.lookup t = some v' → ∃ v, al.lookup t = some v ∧ (Le v v' ∨ ∃ cap, v = .arr b 0 n cap ∧ v' = .seq m es))
    (h : ACode ro P n' c Q al' (M.eraseIdx i)) : ACode ro P n' c Q al M := by
  intro B F Mf a w hi hsl
  have hi2 := hi.perm ((perm_at hm).append_right Mf)
  rw [List.cons_append] at hi2
  obtain ⟨hB, hF, vs, T, hb, hr, h1⟩ := hi2.ok _ (List.mem_cons_self)
  have hfar := hi2.far
  rw [List.pairwise_cons] at hfar
  have hbl : b < w.heap.size := (hi2.ok _ (List.mem_cons_self)).lt (r := .loc b cs) rfl
  have hext : Ext F (F.new b vs) := by
    intro b' j x hx
    unfold EH.new
    split
    · rename_i e; subst e; rw [hF j] at hx; simp at hx
    · exact hx
  have hinv : Inv B (F.new b vs) (M.eraseIdx i ++ Mf) w := by
    refine ⟨hi.base, fun b' j x hx => ?_, fun r hr' => ?_, hfar.2⟩
    · unfold EH.new at hx
      split at hx
      · rename_i e; subst e
        rw [cell_block hb]; exact hx
      · exact hi.fix b' j x hx
    · refine (hi2.ok r (List.mem_cons_of_mem _ hr')).stay hext (fun b' hb' => ⟨rfl, fun j => ?_⟩)
      unfold EH.new
      rw [if_neg]
      intro e
      subst e
      rcases hfar.1 r hr' with k | k
      · simp [Res.blk] at k
      · exact k hb'.symm
  have := h B (F.new b vs) Mf a w hinv ⟨hsl.1, fun t v' e => ?_⟩
  · exact Code.wpIn_mono (fun e a w hp => PostD.next (Ds := []) hext (Below.refl _ _) hp) this
  · obtain ⟨v, h2, h3⟩ := hs t v' e
    obtain ⟨h4, h5⟩ := hsl.2 t v h2
    refine ⟨h4, ?_⟩
    rcases h3 with h3 | ⟨cap, rfl, rfl⟩
    · exact h3 _ _ (h5.mono hext)
    · generalize a.tmps.getD t undef = y at h5
      cases h5
      subst hc hn
      exact .seq b 0 cap hw hmax (EH.new_lies _ _ _) (hr.mono hext) h1 (by assumption)
theorem flat_take {m : Nat} : ∀ {es : List (List AV)} (_ : ∀ e ∈ es, e.length = m) (i : Nat), es.flatten.take (i * m) = (es.take i).flatten
  | [], _, i => by simp
  | e :: es, h, 0 => by simp
  | e :: es, h, i + 1 => by
    have h1 := h e (by simp)
    rw [List.flatten_cons, List.take_succ_cons, List.flatten_cons, ← flat_take (fun x hx => h x (by simp [hx])) i, ← h1, Nat.add_mul, Nat.one_mul, Nat.add_comm, List.take_append]
    simp [List.take_of_length_le]
/-- a slice of a tree -/
theorem Rel.sub {F : EH} {m : Nat} {es : List (List AV)} {u : Value} (h : Rel F (.seq m es) u) {l k : Nat} (hlk : l ≤ k) (hk : k ≤ es.length) : ∃ ao cap, u = .slice ao es.length cap ∧ es.length ≤ maxLen ∧ (es.length ≤ cap → Rel F (.seq m ((es.take k).drop l)) (.slice (if cap = l then ao else ao.map (·.add (l * m))) (k - l) (cap - l))) := by
  cases h with
  | seq0 _ ao cap hc =>
    simp at hk
    subst hk
    have : l = 0 := by omega
    subst this
    refine ⟨ao, cap, rfl, by simp, fun _ => ?_⟩
    have e : (if cap = 0 then ao else ao.map (·.add (0 * m))) = ao := by
      split
      · rfl
      · cases ao <;> simp [Addr.add]
    rw [e]
    simpa using Rel.seq0 m ao cap hc
  | seq b off cap hmw hn hl h h1 hcq =>
    rename_i vs
    refine ⟨_, cap, rfl, hn, fun hcap => ?_⟩
    by_cases e : l = k
    · subst e
      have : (es.take l).drop l = [] := by simp
      rw [this, Nat.sub_self]
      exact .seq0 m _ _ (by split <;> simp)
    · rw [if_neg (by omega)]
      have hln : ((es.take k).drop l).length = k - l := by simp; omega
      have hd := (h.take (k * m)).drop (l * m)
      rw [flat_take hmw, flat_drop (fun x hx => hmw x (List.mem_of_mem_take hx))] at hd
      have := Rel.seq (F := F) (m := m) (es := (es.take k).drop l) (vs := (vs.take (k * m)).drop (l * m)) b (off + l * m) (cap - l) (fun x hx => hmw x (List.mem_of_mem_take (List.mem_of_mem_drop hx))) (by rw [hln]; omega) (by
        intro j x hx
        rw [List.getElem?_drop, List.getElem?_take] at hx
        split at hx
        · rw [Nat.add_assoc]; exact hl _ _ hx
        · simp at hx) hd (fun v hv => h1 v (List.mem_of_mem_take (List.mem_of_mem_drop hv))) (by rw [hln]; omega)
      rw [hln] at this
      simpa [addr_add0] using this
end
end Go.Proofs.Ytflkdojahfmbnaa
