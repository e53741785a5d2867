/- Arguments as trees, with bounds: no slice and no text is longer than L, and the whole is no greater than the bulk of the reading. -/
import Derived.Test.YtecpnlhjjmcllaaAO
import Derived.Test.YtecpnlhjjmcllaaRows
namespace Go.Proofs.Ytecpnlhjjmcllaa
open Go.RowKit
abbrev uptoBulk {H : Type} : DataW H → Nat := Rows.uptoBulk
abbrev uptoBulkAll {H : Type} : List (DataW H) → Nat := Rows.uptoBulkAll
mutual
def ShapeL (P : Program) (L : Nat) : Nat → TypeId → List AV → Prop
  | 0, _, _ => False
  | n + 1, t, cs => match P.underlying t with
    | some .bool => ∃ b, cs = [.val (.bool b)]
    | some (.int k) => ∃ x, (k.min ≤ x ∧ x ≤ k.max) ∧ cs = [.val (.int k x)]
    | some .string => ∃ s : ByteArray, s.size ≤ L ∧ cs = [.val (.string s)]
    | some (.slice e) => ∃ es, cs = [.seq (P.cellsOf e) es] ∧ es.length ≤ L ∧ ∀ x ∈ es, ShapeL P L n e x
    | some (.struct fs) => ShapeLF P L n fs.toList cs
    | _ => False
def ShapeLF (P : Program) (L : Nat) : Nat → List Field → List AV → Prop
  | _, [], cs => cs = []
  | n, f :: fs, cs => ∃ a b, cs = a ++ b ∧ ShapeL P L n f.type a ∧ ShapeLF P L n fs b
end
mutual
def AV.bulk : AV → Nat
  | .val (.string s) => s.size + 1
  | .seq _ es => bulkss es + 1
  | _ => 1
def bulks : List AV → Nat
  | [] => 0
  | a :: l => a.bulk + bulks l
def bulkss : List (List AV) → Nat
  | [] => 0
  | e :: es => bulks e + bulkss es
end
theorem bulks_app : ∀ a b : List AV, bulks (a ++ b) = bulks a + bulks b
  | [], b => by simp [bulks]
  | x :: a, b => by simp only [List.cons_append, bulks, bulks_app a b]; omega
theorem bulkss_app : ∀ a b : List (List AV), bulkss (a ++ b) = bulkss a + bulkss b
  | [], b => by simp [bulkss]
  | x :: a, b => by simp only [List.cons_append, bulkss, bulkss_app a b]; omega
theorem uptoBulkAll_app {H : Type} : ∀ a b : List (DataW H), uptoBulkAll (a ++ b) = uptoBulkAll a + uptoBulkAll b
  | [], b => by simp [uptoBulkAll, Rows.uptoBulkAll]
  | x :: a, b => by have := uptoBulkAll_app a b; simp only [uptoBulkAll] at this; simp only [List.cons_append, uptoBulkAll, Rows.uptoBulkAll, this]; omega
def closedL (P : Program) (S : List TypeId) : Bool := closedT P S && S.all fun t => match P.underlying t with
  | some (.slice e) => Nat.blt 0 (P.bytesOf e)
  | _ => true
section
variable {H : Type} {enc : TypeId × Value → H} {P : Program} {w : World} {sp : Nat → Bool} {held : Bool} {L : Nat}
theorem rows_of2 {fuel : Nat} {e : TypeId} {a : Addr} {m : Nat} {F : EH} (ds : List (DataW H)) : ∀ n : Nat, n ≤ ds.length → (∀ i d, i < n → ds[i]? = some d → ∃ (ws : List Value) (es : List AV), w.cells? 0 (a.add (i * m)) m = some ws ∧ ShapeL P L fuel e es ∧ Rels F es ws ∧ Ones ws ∧ bulks es ≤ uptoBulk d) →
    ∃ (ess : List (List AV)) (vs : List Value), ess.length = n ∧ (∀ x ∈ ess, ShapeL P L fuel e x ∧ x.length = m) ∧ Rels F ess.flatten vs ∧ Ones vs ∧ vs.length = n * m ∧ (∀ j x, vs[j]? = some x → w.cell? (a.add j) = some x) ∧ bulkss ess ≤ uptoBulkAll (ds.take n)
  | 0, _, _ => ⟨[], [], rfl, by simp, .nil, by intro v hv; simp at hv, by simp, by simp, by simp [bulkss]⟩
  | n + 1, hn, h => by
    obtain ⟨ess, vs, h1, h2, h3, h4, h5, h6, h7⟩ := rows_of2 ds n (by omega) (fun i d hi hd => h i d (by omega) hd)
    have hlt : n < ds.length := by omega
    obtain ⟨ws, es, k1, k2, k3, k4, k5⟩ := h n ds[n] (by omega) (List.getElem?_eq_getElem hlt)
    obtain ⟨q1, q2⟩ := cells_get k1
    refine ⟨ess ++ [es], vs ++ ws, by simp [h1], fun x hx => ?_, by simpa using h3.app k3, fun v hv => ?_, by simp only [List.length_append, h5, q1, Nat.add_mul]; omega, fun j x hx => ?_, ?_⟩
    · rcases List.mem_append.1 hx with r | r
      · exact h2 x r
      · simp at r; subst r; exact ⟨k2, by rw [k3.len, q1]⟩
    · rcases List.mem_append.1 hv with r | r
      · exact h4 v r
      · exact k4 v r
    · rcases Nat.lt_or_ge j vs.length with r | r
      · rw [List.getElem?_append_left r] at hx; exact h6 j x hx
      · rw [List.getElem?_append_right r] at hx
        have := q2 _ x hx
        have e1 : (a.add (n * m)).add (j - vs.length) = a.add j := by
          rw [h5] at r ⊢
          unfold Addr.add
          by_cases z1 : n * m = 0
          · rw [if_pos z1]
            simp only [z1, Nat.sub_zero]
          · rw [if_neg z1]
            have hj0 : j ≠ 0 := by omega
            rw [if_neg hj0]
            by_cases z2 : j - n * m = 0
            · rw [if_pos z2]
              simp only [Addr.mk.injEq, true_and, and_true]
              omega
            · rw [if_neg z2]
              simp only [Addr.mk.injEq, true_and, and_true]
              omega
        rwa [e1] at this
    · rw [bulkss_app, List.take_add_one, List.getElem?_eq_getElem hlt, uptoBulkAll_app]
      simp only [bulkss, Option.toList, uptoBulkAll, Rows.uptoBulkAll]
      simp only [uptoBulk, uptoBulkAll] at *
      omega
theorem weights_all {e : TypeId} : ∀ {ds : List (DataW H)} {i : Nat} {d : DataW H}, ds[i]? = some d → ∀ n ∈ d.weights P e, n ∈ DataW.weightsAll P e ds
  | [], i, d, h, _, _ => by simp at h
  | x :: ds, 0, d, h, n, hn => by
    simp at h; subst h
    simp only [DataW.weightsAll, List.mem_append]; exact .inl hn
  | x :: ds, i + 1, d, h, n, hn => by
    simp only [DataW.weightsAll, List.mem_append]; exact .inr (weights_all (by simpa using h) n hn)
theorem open_shape2 {S : List TypeId} (hS : closedL P S = true) (hL : L ≤ maxLen) : ∀ (fuel : Nat) (t : TypeId) (vs : List Value) (x : DataW H × List MemPlace), t ∈ S → DataW.trod enc P w 0 sp held fuel t vs = some x → (∀ n ∈ x.1.weights P t, n ≤ L) →
    ∃ cs, ShapeL P L fuel t cs ∧ Rels (cellF w) cs vs ∧ Ones vs ∧ bulks cs ≤ uptoBulk x.1 := by
  have hS1 : closedT P S = true := by unfold closedL at hS; exact (Bool.and_eq_true_iff.1 hS).1
  have hS2 := by unfold closedL at hS; exact (Bool.and_eq_true_iff.1 hS).2
  intro fuel
  induction fuel with
  | zero => intro t vs x _ h; simp [DataW.trod] at h
  | succ n ih =>
    intro t vs x ht h hw
    have hc := List.all_eq_true.1 hS1 t ht
    have hc2 := List.all_eq_true.1 hS2 t ht
    have hh := h
    unfold DataW.trod at h
    unfold ShapeL
    cases hu : P.underlying t with
    | none => rw [hu] at hc; simp at hc
    | some d =>
      rw [hu] at hc hc2 h
      cases d with
      | bool =>
        simp only at h
        split at h <;> first | (simp at h; done) | skip
        all_goals first | (rename_i b _; simp at h; subst h; exact ⟨[.val (.bool b)], ⟨b, rfl⟩, .cons (.val _) .nil, by intro v hv; simp at hv; subst hv; rfl, by simp [bulks, AV.bulk, uptoBulk, Rows.uptoBulk]⟩) | (simp_all; done)
      | int k =>
        simp only at h
        split at h <;> simp_all
        rename_i k' z _
        obtain ⟨⟨rfl, hwf⟩, rfl⟩ := h
        simp only [Lit.wf, Bool.and_eq_true, decide_eq_true_eq] at hwf
        exact ⟨_, ⟨z, hwf, rfl⟩, .cons (.val _) .nil, by intro v hv; simp at hv; subst hv; rfl, by simp [bulks, AV.bulk, uptoBulk, Rows.uptoBulk]⟩
      | string =>
        simp only at h
        split at h <;> simp_all
        obtain ⟨_, rfl⟩ := h
        rename_i s _
        have hsz : s.data.toList.length ≤ L := hw _ (by simp [DataW.weights])
        exact ⟨_, ⟨_, by simpa using hsz, rfl⟩, .cons (.val _) .nil, by intro v hv; simp at hv; subst hv; rfl, by simp [bulks, AV.bulk, uptoBulk, Rows.uptoBulk]⟩
      | slice e =>
        simp only [Bool.and_eq_true, List.contains_iff_mem, Nat.blt_eq] at hc hc2
        rcases DataW.trod_slice hu hh with ⟨rfl, rfl⟩ | ⟨a, len, cap, elems, rest, n', hn, rfl, rfl, _, hlc, hcm, hel, hat, _⟩
        · exact ⟨[.seq (P.cellsOf e) []], ⟨[], rfl, by simp, by simp⟩, .cons (.seq0 _ none 0 (fun _ => rfl)) .nil, by intro v hv; simp at hv; subst hv; rfl, by simp [bulks, AV.bulk, bulkss, uptoBulk, Rows.uptoBulk]⟩
        · obtain rfl : n = n' := by omega
          have hlenL : len ≤ L := by
            have h1 := hw ((elems.length + rest.length) * P.bytesOf e) (by simp [DataW.weights, hu])
            have h2 : len * 1 ≤ (elems.length + rest.length) * P.bytesOf e := Nat.mul_le_mul (by omega) hc2
            omega
          have hrows : ∀ i d, i < len → (elems.map (·.1))[i]? = some d → ∃ ws es, w.cells? 0 (a.add (i * P.cellsOf e)) (P.cellsOf e) = some ws ∧ ShapeL P L n e es ∧ Rels (cellF w) es ws ∧ Ones ws ∧ bulks es ≤ uptoBulk d := by
            intro i d hi hd
            have h1 := hat i hi
            rw [List.getElem?_eq_getElem (by omega)] at h1
            obtain ⟨ws, h2, h3⟩ := Option.bind_eq_some_iff.1 h1
            have hdd : (elems[i]'(by omega)).1 = d := by
              rw [List.getElem?_map, List.getElem?_eq_getElem (by omega)] at hd
              simpa using hd
            obtain ⟨es, h4, h5, h6, h7⟩ := ih e ws _ hc.1 h3 (by
              intro k hk
              rw [hdd] at hk
              refine hw k ?_
              simp only [DataW.weights, hu, List.mem_cons, List.mem_append]
              exact .inr (.inl (weights_all hd k hk)))
            exact ⟨ws, es, h2, h4, h5, h6, by rw [hdd] at h7; exact h7⟩
          obtain ⟨ess, vs', r1, r2, r3, r4, r5, r6, r7⟩ := rows_of2 (elems.map (·.1)) len (by simp; omega) hrows
          have hb : bulks [AV.seq (P.cellsOf e) ess] ≤ uptoBulk (DataW.slice (elems.map (·.1)) (rest.map (·.1))) := by
            rw [List.take_of_length_le (by simp; omega)] at r7
            simp only [bulks, AV.bulk, uptoBulk, uptoBulkAll, Rows.uptoBulk] at *
            omega
          refine ⟨[.seq (P.cellsOf e) ess], ⟨ess, rfl, by omega, fun x hx => (r2 x hx).1⟩, .cons ?_ .nil, by intro v hv; simp at hv; subst hv; rfl, hb⟩
          by_cases h0 : len = 0
          · subst h0
            have : ess = [] := List.eq_nil_of_length_eq_zero r1
            subst this
            exact .seq0 _ _ _ (by simp)
          · have hpos : 0 < vs'.length := by rw [r5]; exact Nat.mul_pos (by omega) hc.2
            have hsp : a.spot = none := by
              have := r6 0 vs'[0] (List.getElem?_eq_getElem hpos)
              have e0 : a.add 0 = a := by simp [Addr.add]
              rw [e0] at this
              unfold World.cell? at this
              cases hs : a.spot with
              | none => rfl
              | some q => rw [hs] at this; simp at this; split at this <;> simp at this
            obtain ⟨b, off, spot⟩ := a
            simp only at hsp
            subst hsp
            subst r1
            refine .seq b off cap (fun x hx => (r2 x hx).2) (by omega) (fun j x hx => ?_) r3 r4 (by omega)
            have := r6 j x hx
            rwa [addr_add0] at this
      | struct fs =>
        simp only at hc
        obtain ⟨xs, n', hn, rfl, hlen, hxl, hat⟩ := DataW.trod_struct hu hh
        obtain rfl : n = n' := by omega
        have key : ∀ (l : List Field) (ys : List (DataW H × List MemPlace)) (k : Nat), ys.length = l.length → (∀ (i : Nat) (f : Field), l[i]? = some f → DataW.trod enc P w 0 sp held n f.type ((vs.drop f.offset).take (P.cellsOf f.type)) = ys[i]?) → fsOk P S k l (P.cellsOf t) = true → (∀ j ∈ DataW.weightsEach P (l.map (·.type)) (ys.map (·.1)), j ≤ L) →
            ∃ cs, ShapeLF P L n l cs ∧ Rels (cellF w) cs (vs.drop k) ∧ Ones (vs.drop k) ∧ bulks cs ≤ uptoBulkAll (ys.map (·.1)) := by
          intro l
          induction l with
          | nil =>
            intro ys k _ _ hk _
            simp only [fsOk, beq_iff_eq] at hk
            refine ⟨[], by simp [ShapeLF], ?_, ?_, by simp [bulks]⟩
            · rw [List.drop_eq_nil_of_le (by omega)]; exact .nil
            · rw [List.drop_eq_nil_of_le (by omega)]; intro v hv; simp at hv
          | cons f l ihl =>
            intro ys k hyl hf hk hwt
            cases ys with
            | nil => simp at hyl
            | cons y ys =>
              simp only [fsOk, Bool.and_eq_true, beq_iff_eq, List.contains_iff_mem] at hk
              obtain ⟨⟨rfl, hS1⟩, hk⟩ := hk
              have hy := hf 0 f (by simp)
              simp only [List.getElem?_cons_zero] at hy
              simp only [List.map_cons, DataW.weightsEach, List.mem_append] at hwt
              obtain ⟨c1, h1, h2, h3, h7⟩ := ih f.type _ y hS1 hy (fun j hj => hwt j (.inl hj))
              obtain ⟨c2, h4, h5, h6, h8⟩ := ihl ys (f.offset + P.cellsOf f.type) (by simpa using hyl) (fun i g hg => by have := hf (i + 1) g (by simpa using hg); simpa using this) hk (fun j hj => hwt j (.inr hj))
              have e1 : vs.drop f.offset = (vs.drop f.offset).take (P.cellsOf f.type) ++ vs.drop (f.offset + P.cellsOf f.type) := by
                rw [← List.drop_drop, List.take_append_drop]
              refine ⟨c1 ++ c2, by rw [ShapeLF]; exact ⟨c1, c2, rfl, h1, h4⟩, by rw [e1]; exact h2.app h5, ?_, ?_⟩
              · rw [e1]
                intro v hv
                rcases List.mem_append.1 hv with q | q
                · exact h3 v q
                · exact h6 v q
              · rw [bulks_app]
                simp only [List.map_cons, uptoBulkAll, uptoBulk, Rows.uptoBulkAll] at *
                omega
        obtain ⟨cs, k1, k2, k3, k4⟩ := key fs.toList xs 0 (by simpa using hxl) (fun i f hf => hat i f (by simpa using hf)) hc (by
          intro j hj
          refine hw j ?_
          simp only [DataW.weights, hu]
          exact hj)
        rw [List.drop_zero] at k2 k3
        exact ⟨cs, k1, k2, k3, by simp only [uptoBulk, uptoBulkAll, Rows.uptoBulk] at *; omega⟩
      | _ => simp at hc
/-- one argument of a row, with its bounds -/
theorem open_two {S : List TypeId} (hS : closedL P S = true) {ts : List TypeId} {ds : List (DataW H)} (hsz : (DataW.weightsEach P ts ds).all (· ≤ reachBytes) = true) (j : Nat) {t : TypeId} {v : Value} {d : DataW H} {ps : List MemPlace} (hj : ts[j]? = some t) (hd : ds[j]? = some d) (ht : t ∈ S) (h : DataW.Trod enc P w 0 sp held t v d ps) :
    ∃ fuel cs, ShapeL P reachBytes fuel t cs ∧ Rels (cellF w) cs v.cells.toList ∧ Ones v.cells.toList ∧ bulks cs ≤ uptoBulk d := by
  obtain ⟨fuel, h⟩ := h
  obtain ⟨cs, h1, h2, h3, h4⟩ := open_shape2 hS (L := reachBytes) (by decide) fuel t _ _ ht h (fun n hn => by
    have := List.all_eq_true.1 hsz n (DataW.weights_mem_each hj hd n hn)
    simpa using this)
  exact ⟨fuel, cs, h1, h2, h3, h4⟩
end
section
variable {P : Program} {L : Nat}
theorem shapeL_int {fuel : Nat} {t : TypeId} {k : IntKind} {cs : List AV} (ht : P.underlying t = some (.int k)) (h : ShapeL P L fuel t cs) : ∃ x, (k.min ≤ x ∧ x ≤ k.max) ∧ cs = [.val (.int k x)] := by
  cases fuel with
  | zero => unfold ShapeL at h; exact h.elim
  | succ n => unfold ShapeL at h; rw [ht] at h; exact h
theorem shapeL_str {fuel : Nat} {t : TypeId} {cs : List AV} (ht : P.underlying t = some .string) (h : ShapeL P L fuel t cs) : ∃ s : ByteArray, s.size ≤ L ∧ cs = [.val (.string s)] := by
  cases fuel with
  | zero => unfold ShapeL at h; exact h.elim
  | succ n => unfold ShapeL at h; rw [ht] at h; exact h
theorem shapeL_bool {fuel : Nat} {t : TypeId} {cs : List AV} (ht : P.underlying t = some .bool) (h : ShapeL P L fuel t cs) : ∃ b, cs = [.val (.bool b)] := by
  cases fuel with
  | zero => unfold ShapeL at h; exact h.elim
  | succ n => unfold ShapeL at h; rw [ht] at h; exact h
theorem shapeL_slice {fuel : Nat} {t e : TypeId} {cs : List AV} (ht : P.underlying t = some (.slice e)) (h : ShapeL P L fuel t cs) : ∃ n es, n < fuel ∧ cs = [.seq (P.cellsOf e) es] ∧ es.length ≤ L ∧ ∀ x ∈ es, ShapeL P L n e x := by
  cases fuel with
  | zero => unfold ShapeL at h; exact h.elim
  | succ n =>
    unfold ShapeL at h
    rw [ht] at h
    obtain ⟨es, h1, h3, h2⟩ := h
    exact ⟨n, es, by omega, h1, h3, h2⟩
theorem shapeL_struct {fuel : Nat} {t : TypeId} {fs : Array Field} {cs : List AV} (ht : P.underlying t = some (.struct fs)) (h : ShapeL P L fuel t cs) : ∃ n, n < fuel ∧ ShapeLF P L n fs.toList cs := by
  cases fuel with
  | zero => unfold ShapeL at h; exact h.elim
  | succ n => unfold ShapeL at h; rw [ht] at h; exact ⟨n, by omega, h⟩
/-- a row of elements that are all of a kind, each with a fact -/
theorem pick_all2 {α : Type} {f : α → List AV} {p : α → Prop} : ∀ {es : List (List AV)}, (∀ x ∈ es, ∃ a, x = f a ∧ p a) → ∃ l : List α, es = l.map f ∧ ∀ a ∈ l, p a
  | [], _ => ⟨[], rfl, by simp⟩
  | e :: es, h => by
    obtain ⟨a, ha, hp⟩ := h e (by simp)
    obtain ⟨l, hl, hq⟩ := pick_all2 (fun x hx => h x (by simp [hx]) : ∀ x ∈ es, ∃ a, x = f a ∧ p a)
    exact ⟨a :: l, by rw [ha, hl]; rfl, by simp; exact ⟨hp, hq⟩⟩
end
end Go.Proofs.Ytecpnlhjjmcllaa
