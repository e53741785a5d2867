/- Arguments as trees: what a reading of an argument says, in the words of the logic; and how a law's call ends. -/
import Derived.Test.YtflkdojahfmbnaaAL9
import Derived.ProofKit
import Derived.ChangeArms
namespace Go.Proofs.Ytflkdojahfmbnaa
open Go.RowKit
/-- all cells of a world -/
def cellF (w : World) : EH := fun b i => w.cell? ⟨b, i, none⟩
mutual
/-- the cells of a value of a type -/
def ShapeC (P : Program) : Nat → TypeId → List AV → Prop
  | 0, _, _ => False
  | n + 1, t, cs => match P.underlying t with
    | some .bool => ∃ b, cs = [.val (.bool b)]
    | some (.int k) => ∃ x, (k.min ≤ x ∧ x ≤ k.max) ∧ cs = [.val (.int k x)]
    | some .string => ∃ s : ByteArray, s.size ≤ maxLen ∧ cs = [.val (.string s)]
    | some (.slice e) => ∃ es, cs = [.seq (P.cellsOf e) es] ∧ es.length ≤ maxLen ∧ ∀ x ∈ es, ShapeC P n e x
    | some (.struct fs) => ShapeF P n fs.toList cs
    | _ => False
def ShapeF (P : Program) : Nat → List Field → List AV → Prop
  | _, [], cs => cs = []
  | n, f :: fs, cs => ∃ a b, cs = a ++ b ∧ ShapeC P n f.type a ∧ ShapeF P n fs b
end
def fsOk (P : Program) (S : List TypeId) : Nat → List Field → Nat → Bool
  | k, [], n => k == n
  | k, f :: fs, n => f.offset == k && S.contains f.type && fsOk P S (k + P.cellsOf f.type) fs n
/-- a set of types whose parts are in it -/
def closedT (P : Program) (S : List TypeId) : Bool := S.all fun t => match P.underlying t with
  | some .bool => true
  | some (.int _) => true
  | some .string => true
  | some (.slice e) => S.contains e && Nat.blt 0 (P.cellsOf e)
  | some (.struct fs) => fsOk P S 0 fs.toList (P.cellsOf t)
  | _ => false
section
variable {H : Type} {enc : TypeId × Value → H} {P : Program} {w : World} {sp : Nat → Bool} {held : Bool}
theorem cells_get {a : Addr} {m : Nat} {ws : List Value} (h : w.cells? 0 a m = some ws) : ws.length = m ∧ ∀ j x, ws[j]? = some x → w.cell? (a.add j) = some x := by
  unfold World.cells? at h
  rw [if_pos (Nat.zero_le _)] at h
  have hl : ws.length = m := by simpa using mapM_some_length h
  refine ⟨hl, fun j x hx => ?_⟩
  have hj : j < m := by
    rw [← hl]
    rcases Nat.lt_or_ge j ws.length with k | k
    · exact k
    · rw [List.getElem?_eq_none k] at hx; simp at hx
  have := mapM_some_get h j j (by simp [hj])
  rw [this, hx]
theorem rows_of {fuel : Nat} {e : TypeId} {a : Addr} {m : Nat} {F : EH} : ∀ n : Nat, (∀ i, i < n → ∃ (ws : List Value) (es : List AV), w.cells? 0 (a.add (i * m)) m = some ws ∧ ShapeC P fuel e es ∧ Rels F es ws ∧ Ones ws) →
    ∃ (ess : List (List AV)) (vs : List Value), ess.length = n ∧ (∀ x ∈ ess, ShapeC P fuel e x ∧ x.length = m) ∧ Rels F ess.flatten vs ∧ Ones vs ∧ vs.length = n * m ∧ ∀ j x, vs[j]? = some x → w.cell? (a.add j) = some x
  | 0, _ => ⟨[], [], rfl, by simp, .nil, by intro v hv; simp at hv, by simp, by simp⟩
  | n + 1, h => by
    obtain ⟨ess, vs, h1, h2, h3, h4, h5, h6⟩ := rows_of n (fun i hi => h i (by omega))
    obtain ⟨ws, es, k1, k2, k3, k4⟩ := h n (by omega)
    obtain ⟨q1, q2⟩ := cells_get k1
    refine ⟨ess ++ [es], vs ++ ws, by simp [h1], fun x hx => ?_, by simpa using h3.app k3, fun v hv => ?_, by simp only [List.length_append, h5, q1, Nat.add_mul]; omega, fun j x hx => ?_⟩
    · rcases List.mem_append.1 hx with r | r
      · exact h2 x r
      · simp at r; subst r; exact ⟨k2, by rw [k3.len, q1]⟩
    · rcases List.mem_append.1 hv with r | r
      · exact h4 v r
      · exact k4 v r
    · rcases Nat.lt_or_ge j vs.length with r | r
      · rw [List.getElem?_append_left r] at hx; exact h6 j x hx
      · rw [List.getElem?_append_right r] at hx
        have := q2 _ x hx
        have e1 : (a.add (n * m)).add (j - vs.length) = a.add j := by
          rw [h5] at r ⊢
          unfold Addr.add
          by_cases z1 : n * m = 0
          · rw [if_pos z1]
            simp only [z1, Nat.sub_zero]
          · rw [if_neg z1]
            have hj0 : j ≠ 0 := by omega
            rw [if_neg hj0]
            by_cases z2 : j - n * m = 0
            · rw [if_pos z2]
              simp only [Addr.mk.injEq, true_and, and_true]
              omega
            · rw [if_neg z2]
              simp only [Addr.mk.injEq, true_and, and_true]
              omega
        rwa [e1] at this
theorem open_shape {S : List TypeId} (hS : closedT P S = true) : ∀ (fuel : Nat) (t : TypeId) (vs : List Value) (x : DataW H × List MemPlace), t ∈ S → DataW.trod enc P w 0 sp held fuel t vs = some x →
    ∃ cs, ShapeC P fuel t cs ∧ Rels (cellF w) cs vs ∧ Ones vs := by
  intro fuel
  induction fuel with
  | zero => intro t vs x _ h; simp [DataW.trod] at h
  | succ n ih =>
    intro t vs x ht h
    have hc := List.all_eq_true.1 hS t ht
    have hh := h
    unfold DataW.trod at h
    unfold ShapeC
    cases hu : P.underlying t with
    | none => rw [hu] at hc; simp at hc
    | some d =>
      rw [hu] at hc h
      cases d with
      | bool =>
        simp only at h
        split at h <;> first | (simp at h; done) | skip
        all_goals first | (rename_i b _; exact ⟨[.val (.bool b)], ⟨b, rfl⟩, .cons (.val _) .nil, by intro v hv; simp at hv; subst hv; rfl⟩) | (simp_all; done)
      | int k =>
        simp only at h
        split at h <;> simp_all
        rename_i k' z _
        obtain ⟨⟨rfl, hwf⟩, _⟩ := h
        simp only [Lit.wf, Bool.and_eq_true, decide_eq_true_eq] at hwf
        exact ⟨_, ⟨z, hwf, rfl⟩, .cons (.val _) .nil, by intro v hv; simp at hv; subst hv; rfl⟩
      | string =>
        simp only at h
        split at h <;> simp_all
        exact ⟨_, ⟨_, h.1, rfl⟩, .cons (.val _) .nil, by intro v hv; simp at hv; subst hv; rfl⟩
      | slice e =>
        simp only [Bool.and_eq_true, List.contains_iff_mem, Nat.blt_eq] at hc
        rcases DataW.trod_slice hu hh with ⟨rfl, _⟩ | ⟨a, len, cap, elems, rest, n', hn, rfl, _, _, hlc, hcm, hel, hat, _⟩
        · exact ⟨[.seq (P.cellsOf e) []], ⟨[], rfl, by simp, by simp⟩, .cons (.seq0 _ none 0 (fun _ => rfl)) .nil, by intro v hv; simp at hv; subst hv; rfl⟩
        · obtain rfl : n = n' := by omega
          have hrows : ∀ i, i < len → ∃ ws es, w.cells? 0 (a.add (i * P.cellsOf e)) (P.cellsOf e) = some ws ∧ ShapeC P n e es ∧ Rels (cellF w) es ws ∧ Ones ws := by
            intro i hi
            have h1 := hat i hi
            rw [List.getElem?_eq_getElem (by omega)] at h1
            obtain ⟨ws, h2, h3⟩ := Option.bind_eq_some_iff.1 h1
            obtain ⟨es, h4, h5, h6⟩ := ih e ws _ hc.1 h3
            exact ⟨ws, es, h2, h4, h5, h6⟩
          obtain ⟨ess, vs', r1, r2, r3, r4, r5, r6⟩ := rows_of len hrows
          refine ⟨[.seq (P.cellsOf e) ess], ⟨ess, rfl, by omega, fun x hx => (r2 x hx).1⟩, .cons ?_ .nil, by intro v hv; simp at hv; subst hv; rfl⟩
          by_cases h0 : len = 0
          · subst h0
            have : ess = [] := List.eq_nil_of_length_eq_zero r1
            subst this
            exact .seq0 _ _ _ (by simp)
          · have hpos : 0 < vs'.length := by rw [r5]; exact Nat.mul_pos (by omega) hc.2
            have hsp : a.spot = none := by
              have := r6 0 vs'[0] (List.getElem?_eq_getElem hpos)
              have e0 : a.add 0 = a := by simp [Addr.add]
              rw [e0] at this
              unfold World.cell? at this
              cases hs : a.spot with
              | none => rfl
              | some q => rw [hs] at this; simp at this; split at this <;> simp at this
            obtain ⟨b, off, spot⟩ := a
            simp only at hsp
            subst hsp
            subst r1
            refine .seq b off cap (fun x hx => (r2 x hx).2) (by omega) (fun j x hx => ?_) r3 r4 (by omega)
            have := r6 j x hx
            rwa [addr_add0] at this
      | struct fs =>
        simp only at hc
        obtain ⟨xs, n', hn, _, hlen, hxl, hat⟩ := DataW.trod_struct hu hh
        obtain rfl : n = n' := by omega
        have hmem : ∀ f ∈ fs.toList, ∃ y, DataW.trod enc P w 0 sp held n f.type ((vs.drop f.offset).take (P.cellsOf f.type)) = some y := by
          intro f hf
          obtain ⟨i, hi, hie⟩ := List.mem_iff_getElem.1 hf
          have h1 := hat i f (by rw [← hie]; simp at hi ⊢)
          rw [h1]
          simp at hi
          exact ⟨xs[i]'(by omega), List.getElem?_eq_getElem (by omega)⟩
        have key : ∀ (l : List Field) (k : Nat), (∀ f ∈ l, ∃ y, DataW.trod enc P w 0 sp held n f.type ((vs.drop f.offset).take (P.cellsOf f.type)) = some y) → fsOk P S k l (P.cellsOf t) = true →
            ∃ cs, ShapeF P n l cs ∧ Rels (cellF w) cs (vs.drop k) ∧ Ones (vs.drop k) := by
          intro l
          induction l with
          | nil =>
            intro k _ hk
            simp only [fsOk, beq_iff_eq] at hk
            refine ⟨[], by simp [ShapeF], ?_, ?_⟩
            · rw [List.drop_eq_nil_of_le (by omega)]; exact .nil
            · rw [List.drop_eq_nil_of_le (by omega)]; intro v hv; simp at hv
          | cons f l ihl =>
            intro k hf hk
            simp only [fsOk, Bool.and_eq_true, beq_iff_eq, List.contains_iff_mem] at hk
            obtain ⟨⟨rfl, hS1⟩, hk⟩ := hk
            obtain ⟨y, hy⟩ := hf f (by simp)
            obtain ⟨c1, h1, h2, h3⟩ := ih f.type _ y hS1 hy
            obtain ⟨c2, h4, h5, h6⟩ := ihl (f.offset + P.cellsOf f.type) (fun g hg => hf g (by simp [hg])) hk
            have e1 : vs.drop f.offset = (vs.drop f.offset).take (P.cellsOf f.type) ++ vs.drop (f.offset + P.cellsOf f.type) := by
              rw [← List.drop_drop, List.take_append_drop]
            refine ⟨c1 ++ c2, by rw [ShapeF]; exact ⟨c1, c2, rfl, h1, h4⟩, by rw [e1]; exact h2.app h5, ?_⟩
            rw [e1]
            intro v hv
            rcases List.mem_append.1 hv with q | q
            · exact h3 v q
            · exact h6 v q
        obtain ⟨cs, k1, k2, k3⟩ := key fs.toList 0 hmem hc
        rw [List.drop_zero] at k2 k3
        exact ⟨cs, k1, k2, k3⟩
      | _ => simp at hc
theorem Inv.start (w : World) : Inv w.heap.size (cellF w) [] w := ⟨Nat.le_refl _, fun _ _ _ h => h, by simp, List.Pairwise.nil⟩
/-- a law's call, at a world's own cells -/
theorem law_run {f : FuncId} {vs : List AV} {us : List Value} (h : ACall P f vs [] (fun v _ => v = .val (.bool true))) (hr : Rels (cellF w) vs us) : Calls P f us.toArray w fun e w' => e = .returned (.bool true) ∧ Below w.heap.size w w' := by
  refine (h.run w.heap.size (cellF w) [] w us (by simpa using Inv.start w) hr).mono ?_
  rintro e w' ⟨u, v, M', F', rfl, rfl, h3, _, _, h6⟩
  cases h3
  exact ⟨rfl, h6⟩
/-- an argument of one cell -/
theorem open_one {S : List TypeId} (hS : closedT P S = true) {t : TypeId} {v : Value} {d : DataW H} {ps : List MemPlace} (ht : t ∈ S) (h : DataW.Trod enc P w 0 sp held t v d ps) : ∃ fuel cs, ShapeC P fuel t cs ∧ Rels (cellF w) cs v.cells.toList ∧ Ones v.cells.toList := by
  obtain ⟨fuel, h⟩ := h
  obtain ⟨cs, h1, h2, h3⟩ := open_shape hS fuel t _ _ ht h
  exact ⟨fuel, cs, h1, h2, h3⟩
theorem rel_agg {F : EH} {v : Value} {cs : List AV} (hv : ∃ a, v = .agg a) (h : Rels F cs v.cells.toList) (h1 : Ones v.cells.toList) : Rel F (.agg cs) v := by
  obtain ⟨a, rfl⟩ := hv
  have := Rel.agg h h1
  simpa [Value.cells] using this
theorem rel_cell {F : EH} {v : Value} {c : AV} (hv : ∀ a, v ≠ .agg a) (h : Rels F [c] v.cells.toList) : Rel F c v := by
  have e : v.cells.toList = [v] := by cases v <;> first | rfl | exact absurd rfl (hv _)
  rw [e] at h
  cases h with
  | cons h _ => exact h
end
end Go.Proofs.Ytflkdojahfmbnaa
