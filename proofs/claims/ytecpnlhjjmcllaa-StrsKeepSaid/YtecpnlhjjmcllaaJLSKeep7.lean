/- StrsKeep returns true for every input: texts, and what two of them are behind each other, are the same behind a collection; equal ones, put twice, are the same in order. -/
import Derived.Test.YtecpnlhjjmcllaaJLSKeep6
import Derived.Test.YtecpnlhjjmcllaaRows
import Derived.ProofKit
import Derived.SizedLaws
import Derived.OpenShut
import Derived.Test.YtecpnlhjjmcllaaChecked
namespace Go.Proofs.Ytecpnlhjjmcllaa
open Go.RowKit
abbrev uptoBulk {H : Type} : DataW H → Nat := Rows.uptoBulk
abbrev uptoBulkAll {H : Type} : List (DataW H) → Nat := Rows.uptoBulkAll
mutual
def ShapeL (P : Program) (L : Nat) : Nat → TypeId → List AV → Prop
  | 0, _, _ => False
  | n + 1, t, cs => match P.underlying t with
    | some .bool => ∃ b, cs = [.val (.bool b)]
    | some (.int k) => ∃ x, (k.min ≤ x ∧ x ≤ k.max) ∧ cs = [.val (.int k x)]
    | some .string => ∃ s : ByteArray, s.size ≤ L ∧ cs = [.val (.string s)]
    | some (.slice e) => ∃ es, cs = [.seq (P.cellsOf e) es] ∧ es.length ≤ L ∧ ∀ x ∈ es, ShapeL P L n e x
    | some (.struct fs) => ShapeLF P L n fs.toList cs
    | _ => False
def ShapeLF (P : Program) (L : Nat) : Nat → List Field → List AV → Prop
  | _, [], cs => cs = []
  | n, f :: fs, cs => ∃ a b, cs = a ++ b ∧ ShapeL P L n f.type a ∧ ShapeLF P L n fs b
end
mutual
def AV.bulk : AV → Nat
  | .val (.string s) => s.size + 1
  | .seq _ es => bulkss es + 1
  | _ => 1
def bulks : List AV → Nat
  | [] => 0
  | a :: l => a.bulk + bulks l
def bulkss : List (List AV) → Nat
  | [] => 0
  | e :: es => bulks e + bulkss es
end
theorem bulks_app : ∀ a b : List AV, bulks (a ++ b) = bulks a + bulks b
  | [], b => by simp [bulks]
  | x :: a, b => by simp only [List.cons_append, bulks, bulks_app a b]; omega
theorem bulkss_app : ∀ a b : List (List AV), bulkss (a ++ b) = bulkss a + bulkss b
  | [], b => by simp [bulkss]
  | x :: a, b => by simp only [List.cons_append, bulkss, bulkss_app a b]; omega
theorem uptoBulkAll_app {H : Type} : ∀ a b : List (DataW H), uptoBulkAll (a ++ b) = uptoBulkAll a + uptoBulkAll b
  | [], b => by simp [uptoBulkAll, Rows.uptoBulkAll]
  | x :: a, b => by have := uptoBulkAll_app a b; simp only [uptoBulkAll] at this; simp only [List.cons_append, uptoBulkAll, Rows.uptoBulkAll, this]; omega
def closedL (P : Program) (S : List TypeId) : Bool := closedT P S && S.all fun t => match P.underlying t with
  | some (.slice e) => Nat.blt 0 (P.bytesOf e)
  | _ => true
section
variable {H : Type} {enc : TypeId × Value → H} {P : Program} {w : World} {sp : Nat → Bool} {held : Bool} {L : Nat}
theorem rows_of2 {fuel : Nat} {e : TypeId} {a : Addr} {m : Nat} {F : EH} (ds : List (DataW H)) : ∀ n : Nat, n ≤ ds.length → (∀ i d, i < n → ds[i]? = some d → ∃ (ws : List Value) (es : List AV), w.cells? 0 (a.add (i * m)) m = some ws ∧ ShapeL P L fuel e es ∧ Rels F es ws ∧ Ones ws ∧ bulks es ≤ uptoBulk d) →
    ∃ (ess : List (List AV)) (vs : List Value), ess.length = n ∧ (∀ x ∈ ess, ShapeL P L fuel e x ∧ x.length = m) ∧ Rels F ess.flatten vs ∧ Ones vs ∧ vs.length = n * m ∧ (∀ j x, vs[j]? = some x → w.cell? (a.add j) = some x) ∧ bulkss ess ≤ uptoBulkAll (ds.take n)
  | 0, _, _ => ⟨[], [], rfl, by simp, .nil, by intro v hv; simp at hv, by simp, by simp, by simp [bulkss]⟩
  | n + 1, hn, h => by
    obtain ⟨ess, vs, h1, h2, h3, h4, h5, h6, h7⟩ := rows_of2 ds n (by omega) (fun i d hi hd => h i d (by omega) hd)
    have hlt : n < ds.length := by omega
    obtain ⟨ws, es, k1, k2, k3, k4, k5⟩ := h n ds[n] (by omega) (List.getElem?_eq_getElem hlt)
    obtain ⟨q1, q2⟩ := cells_get k1
    refine ⟨ess ++ [es], vs ++ ws, by simp [h1], fun x hx => ?_, by simpa using h3.app k3, fun v hv => ?_, by simp only [List.length_append, h5, q1, Nat.add_mul]; omega, fun j x hx => ?_, ?_⟩
    · rcases List.mem_append.1 hx with r | r
      · exact h2 x r
      · simp at r; subst r; exact ⟨k2, by rw [k3.len, q1]⟩
    · rcases List.mem_append.1 hv with r | r
      · exact h4 v r
      · exact k4 v r
    · rcases Nat.lt_or_ge j vs.length with r | r
      · rw [List.getElem?_append_left r] at hx; exact h6 j x hx
      · rw [List.getElem?_append_right r] at hx
        have := q2 _ x hx
        have e1 : (a.add (n * m)).add (j - vs.length) = a.add j := by
          rw [h5] at r ⊢
          unfold Addr.add
          by_cases z1 : n * m = 0
          · rw [if_pos z1]
            simp only [z1, Nat.sub_zero]
          · rw [if_neg z1]
            have hj0 : j ≠ 0 := by omega
            rw [if_neg hj0]
            by_cases z2 : j - n * m = 0
            · rw [if_pos z2]
              simp only [Addr.mk.injEq, true_and, and_true]
              omega
            · rw [if_neg z2]
              simp only [Addr.mk.injEq, true_and, and_true]
              omega
        rwa [e1] at this
    · rw [bulkss_app, List.take_add_one, List.getElem?_eq_getElem hlt, uptoBulkAll_app]
      simp only [bulkss, Option.toList, uptoBulkAll, Rows.uptoBulkAll]
      simp only [uptoBulk, uptoBulkAll] at *
      omega
theorem weights_all {e : TypeId} : ∀ {ds : List (DataW H)} {i : Nat} {d : DataW H}, ds[i]? = some d → ∀ n ∈ d.weights P e, n ∈ DataW.weightsAll P e ds
  | [], i, d, h, _, _ => by simp at h
  | x :: ds, 0, d, h, n, hn => by
    simp at h; subst h
    simp only [DataW.weightsAll, List.mem_append]; exact .inl hn
  | x :: ds, i + 1, d, h, n, hn => by
    simp only [DataW.weightsAll, List.mem_append]; exact .inr (weights_all (by simpa using h) n hn)
theorem open_shape2 {S : List TypeId} (hS : closedL P S = true) (hL : L ≤ maxLen) : ∀ (fuel : Nat) (t : TypeId) (vs : List Value) (x : DataW H × List MemPlace), t ∈ S → DataW.trod enc P w 0 sp held fuel t vs = some x → (∀ n ∈ x.1.weights P t, n ≤ L) →
    ∃ cs, ShapeL P L fuel t cs ∧ Rels (cellF w) cs vs ∧ Ones vs ∧ bulks cs ≤ uptoBulk x.1 := by
  have hS1 : closedT P S = true := by unfold closedL at hS; exact (Bool.and_eq_true_iff.1 hS).1
  have hS2 := by unfold closedL at hS; exact (Bool.and_eq_true_iff.1 hS).2
  intro fuel
  induction fuel with
  | zero => intro t vs x _ h; simp [DataW.trod] at h
  | succ n ih =>
    intro t vs x ht h hw
    have hc := List.all_eq_true.1 hS1 t ht
    have hc2 := List.all_eq_true.1 hS2 t ht
    have hh := h
    unfold DataW.trod at h
    unfold ShapeL
    cases hu : P.underlying t with
    | none => rw [hu] at hc; simp at hc
    | some d =>
      rw [hu] at hc hc2 h
      cases d with
      | bool =>
        simp only at h
        split at h <;> first | (simp at h; done) | skip
        all_goals first | (rename_i b _; simp at h; subst h; exact ⟨[.val (.bool b)], ⟨b, rfl⟩, .cons (.val _) .nil, by intro v hv; simp at hv; subst hv; rfl, by simp [bulks, AV.bulk, uptoBulk, Rows.uptoBulk]⟩) | (simp_all; done)
      | int k =>
        simp only at h
        split at h <;> simp_all
        rename_i k' z _
        obtain ⟨⟨rfl, hwf⟩, rfl⟩ := h
        simp only [Lit.wf, Bool.and_eq_true, decide_eq_true_eq] at hwf
        exact ⟨_, ⟨z, hwf, rfl⟩, .cons (.val _) .nil, by intro v hv; simp at hv; subst hv; rfl, by simp [bulks, AV.bulk, uptoBulk, Rows.uptoBulk]⟩
      | string =>
        simp only at h
        split at h <;> simp_all
        obtain ⟨_, rfl⟩ := h
        rename_i s _
        have hsz : s.data.toList.length ≤ L := hw _ (by simp [DataW.weights])
        exact ⟨_, ⟨_, by simpa using hsz, rfl⟩, .cons (.val _) .nil, by intro v hv; simp at hv; subst hv; rfl, by simp [bulks, AV.bulk, uptoBulk, Rows.uptoBulk]⟩
      | slice e =>
        simp only [Bool.and_eq_true, List.contains_iff_mem, Nat.blt_eq] at hc hc2
        rcases DataW.trod_slice hu hh with ⟨rfl, rfl⟩ | ⟨a, len, cap, elems, rest, n', hn, rfl, rfl, _, hlc, hcm, hel, hat, _⟩
        · exact ⟨[.seq (P.cellsOf e) []], ⟨[], rfl, by simp, by simp⟩, .cons (.seq0 _ none 0 (fun _ => rfl)) .nil, by intro v hv; simp at hv; subst hv; rfl, by simp [bulks, AV.bulk, bulkss, uptoBulk, Rows.uptoBulk]⟩
        · obtain rfl : n = n' := by omega
          have hlenL : len ≤ L := by
            have h1 := hw ((elems.length + rest.length) * P.bytesOf e) (by simp [DataW.weights, hu])
            have h2 : len * 1 ≤ (elems.length + rest.length) * P.bytesOf e := Nat.mul_le_mul (by omega) hc2
            omega
          have hrows : ∀ i d, i < len → (elems.map (·.1))[i]? = some d → ∃ ws es, w.cells? 0 (a.add (i * P.cellsOf e)) (P.cellsOf e) = some ws ∧ ShapeL P L n e es ∧ Rels (cellF w) es ws ∧ Ones ws ∧ bulks es ≤ uptoBulk d := by
            intro i d hi hd
            have h1 := hat i hi
            rw [List.getElem?_eq_getElem (by omega)] at h1
            obtain ⟨ws, h2, h3⟩ := Option.bind_eq_some_iff.1 h1
            have hdd : (elems[i]'(by omega)).1 = d := by
              rw [List.getElem?_map, List.getElem?_eq_getElem (by omega)] at hd
              simpa using hd
            obtain ⟨es, h4, h5, h6, h7⟩ := ih e ws _ hc.1 h3 (by
              intro k hk
              rw [hdd] at hk
              refine hw k ?_
              simp only [DataW.weights, hu, List.mem_cons, List.mem_append]
              exact .inr (.inl (weights_all hd k hk)))
            exact ⟨ws, es, h2, h4, h5, h6, by rw [hdd] at h7; exact h7⟩
          obtain ⟨ess, vs', r1, r2, r3, r4, r5, r6, r7⟩ := rows_of2 (elems.map (·.1)) len (by simp; omega) hrows
          have hb : bulks [AV.seq (P.cellsOf e) ess] ≤ uptoBulk (DataW.slice (elems.map (·.1)) (rest.map (·.1))) := by
            rw [List.take_of_length_le (by simp; omega)] at r7
            simp only [bulks, AV.bulk, uptoBulk, uptoBulkAll, Rows.uptoBulk] at *
            omega
          refine ⟨[.seq (P.cellsOf e) ess], ⟨ess, rfl, by omega, fun x hx => (r2 x hx).1⟩, .cons ?_ .nil, by intro v hv; simp at hv; subst hv; rfl, hb⟩
          by_cases h0 : len = 0
          · subst h0
            have : ess = [] := List.eq_nil_of_length_eq_zero r1
            subst this
            exact .seq0 _ _ _ (by simp)
          · have hpos : 0 < vs'.length := by rw [r5]; exact Nat.mul_pos (by omega) hc.2
            have hsp : a.spot = none := by
              have := r6 0 vs'[0] (List.getElem?_eq_getElem hpos)
              have e0 : a.add 0 = a := by simp [Addr.add]
              rw [e0] at this
              unfold World.cell? at this
              cases hs : a.spot with
              | none => rfl
              | some q => rw [hs] at this; simp at this; split at this <;> simp at this
            obtain ⟨b, off, spot⟩ := a
            simp only at hsp
            subst hsp
            subst r1
            refine .seq b off cap (fun x hx => (r2 x hx).2) (by omega) (fun j x hx => ?_) r3 r4 (by omega)
            have := r6 j x hx
            rwa [addr_add0] at this
      | struct fs =>
        simp only at hc
        obtain ⟨xs, n', hn, rfl, hlen, hxl, hat⟩ := DataW.trod_struct hu hh
        obtain rfl : n = n' := by omega
        have key : ∀ (l : List Field) (ys : List (DataW H × List MemPlace)) (k : Nat), ys.length = l.length → (∀ (i : Nat) (f : Field), l[i]? = some f → DataW.trod enc P w 0 sp held n f.type ((vs.drop f.offset).take (P.cellsOf f.type)) = ys[i]?) → fsOk P S k l (P.cellsOf t) = true → (∀ j ∈ DataW.weightsEach P (l.map (·.type)) (ys.map (·.1)), j ≤ L) →
            ∃ cs, ShapeLF P L n l cs ∧ Rels (cellF w) cs (vs.drop k) ∧ Ones (vs.drop k) ∧ bulks cs ≤ uptoBulkAll (ys.map (·.1)) := by
          intro l
          induction l with
          | nil =>
            intro ys k _ _ hk _
            simp only [fsOk, beq_iff_eq] at hk
            refine ⟨[], by simp [ShapeLF], ?_, ?_, by simp [bulks]⟩
            · rw [List.drop_eq_nil_of_le (by omega)]; exact .nil
            · rw [List.drop_eq_nil_of_le (by omega)]; intro v hv; simp at hv
          | cons f l ihl =>
            intro ys k hyl hf hk hwt
            cases ys with
            | nil => simp at hyl
            | cons y ys =>
              simp only [fsOk, Bool.and_eq_true, beq_iff_eq, List.contains_iff_mem] at hk
              obtain ⟨⟨rfl, hS1⟩, hk⟩ := hk
              have hy := hf 0 f (by simp)
              simp only [List.getElem?_cons_zero] at hy
              simp only [List.map_cons, DataW.weightsEach, List.mem_append] at hwt
              obtain ⟨c1, h1, h2, h3, h7⟩ := ih f.type _ y hS1 hy (fun j hj => hwt j (.inl hj))
              obtain ⟨c2, h4, h5, h6, h8⟩ := ihl ys (f.offset + P.cellsOf f.type) (by simpa using hyl) (fun i g hg => by have := hf (i + 1) g (by simpa using hg); simpa using this) hk (fun j hj => hwt j (.inr hj))
              have e1 : vs.drop f.offset = (vs.drop f.offset).take (P.cellsOf f.type) ++ vs.drop (f.offset + P.cellsOf f.type) := by
                rw [← List.drop_drop, List.take_append_drop]
              refine ⟨c1 ++ c2, by rw [ShapeLF]; exact ⟨c1, c2, rfl, h1, h4⟩, by rw [e1]; exact h2.app h5, ?_, ?_⟩
              · rw [e1]
                intro v hv
                rcases List.mem_append.1 hv with q | q
                · exact h3 v q
                · exact h6 v q
              · rw [bulks_app]
                simp only [List.map_cons, uptoBulkAll, uptoBulk, Rows.uptoBulkAll] at *
                omega
        obtain ⟨cs, k1, k2, k3, k4⟩ := key fs.toList xs 0 (by simpa using hxl) (fun i f hf => hat i f (by simpa using hf)) hc (by
          intro j hj
          refine hw j ?_
          simp only [DataW.weights, hu]
          exact hj)
        rw [List.drop_zero] at k2 k3
        exact ⟨cs, k1, k2, k3, by simp only [uptoBulk, uptoBulkAll, Rows.uptoBulk] at *; omega⟩
      | _ => simp at hc
/-- one argument of a row, with its bounds -/
theorem open_two {S : List TypeId} (hS : closedL P S = true) {ts : List TypeId} {ds : List (DataW H)} (hsz : (DataW.weightsEach P ts ds).all (· ≤ reachBytes) = true) (j : Nat) {t : TypeId} {v : Value} {d : DataW H} {ps : List MemPlace} (hj : ts[j]? = some t) (hd : ds[j]? = some d) (ht : t ∈ S) (h : DataW.Trod enc P w 0 sp held t v d ps) :
    ∃ fuel cs, ShapeL P reachBytes fuel t cs ∧ Rels (cellF w) cs v.cells.toList ∧ Ones v.cells.toList ∧ bulks cs ≤ uptoBulk d := by
  obtain ⟨fuel, h⟩ := h
  obtain ⟨cs, h1, h2, h3, h4⟩ := open_shape2 hS (L := reachBytes) (by decide) fuel t _ _ ht h (fun n hn => by
    have := List.all_eq_true.1 hsz n (DataW.weights_mem_each hj hd n hn)
    simpa using this)
  exact ⟨fuel, cs, h1, h2, h3, h4⟩
end
section
variable {P : Program} {L : Nat}
theorem shapeL_int {fuel : Nat} {t : TypeId} {k : IntKind} {cs : List AV} (ht : P.underlying t = some (.int k)) (h : ShapeL P L fuel t cs) : ∃ x, (k.min ≤ x ∧ x ≤ k.max) ∧ cs = [.val (.int k x)] := by
  cases fuel with
  | zero => unfold ShapeL at h; exact h.elim
  | succ n => unfold ShapeL at h; rw [ht] at h; exact h
theorem shapeL_str {fuel : Nat} {t : TypeId} {cs : List AV} (ht : P.underlying t = some .string) (h : ShapeL P L fuel t cs) : ∃ s : ByteArray, s.size ≤ L ∧ cs = [.val (.string s)] := by
  cases fuel with
  | zero => unfold ShapeL at h; exact h.elim
  | succ n => unfold ShapeL at h; rw [ht] at h; exact h
theorem shapeL_bool {fuel : Nat} {t : TypeId} {cs : List AV} (ht : P.underlying t = some .bool) (h : ShapeL P L fuel t cs) : ∃ b, cs = [.val (.bool b)] := by
  cases fuel with
  | zero => unfold ShapeL at h; exact h.elim
  | succ n => unfold ShapeL at h; rw [ht] at h; exact h
theorem shapeL_slice {fuel : Nat} {t e : TypeId} {cs : List AV} (ht : P.underlying t = some (.slice e)) (h : ShapeL P L fuel t cs) : ∃ n es, n < fuel ∧ cs = [.seq (P.cellsOf e) es] ∧ es.length ≤ L ∧ ∀ x ∈ es, ShapeL P L n e x := by
  cases fuel with
  | zero => unfold ShapeL at h; exact h.elim
  | succ n =>
    unfold ShapeL at h
    rw [ht] at h
    obtain ⟨es, h1, h3, h2⟩ := h
    exact ⟨n, es, by omega, h1, h3, h2⟩
theorem shapeL_struct {fuel : Nat} {t : TypeId} {fs : Array Field} {cs : List AV} (ht : P.underlying t = some (.struct fs)) (h : ShapeL P L fuel t cs) : ∃ n, n < fuel ∧ ShapeLF P L n fs.toList cs := by
  cases fuel with
  | zero => unfold ShapeL at h; exact h.elim
  | succ n => unfold ShapeL at h; rw [ht] at h; exact ⟨n, by omega, h⟩
/-- a row of elements that are all of a kind, each with a fact -/
theorem pick_all2 {α : Type} {f : α → List AV} {p : α → Prop} : ∀ {es : List (List AV)}, (∀ x ∈ es, ∃ a, x = f a ∧ p a) → ∃ l : List α, es = l.map f ∧ ∀ a ∈ l, p a
  | [], _ => ⟨[], rfl, by simp⟩
  | e :: es, h => by
    obtain ⟨a, ha, hp⟩ := h e (by simp)
    obtain ⟨l, hl, hq⟩ := pick_all2 (fun x hx => h x (by simp [hx]) : ∀ x ∈ es, ∃ a, x = f a ∧ p a)
    exact ⟨a :: l, by rw [ha, hl]; rfl, by simp; exact ⟨hp, hq⟩⟩
end
end Go.Proofs.Ytecpnlhjjmcllaa
namespace Go.Proofs.Ytecpnlhjjmcllaa
open Go.RowKit
theorem okw_slice {P : Program} {W : World} {r : Reach} {b : Nat} {t e : TypeId} {v : Value} (ht : P.underlying t = some (.slice e)) (h : Value.okWide P W r b t v) : ∀ a, v ≠ .agg a := by
  rintro a rfl
  unfold Value.okWide at h
  rw [ht] at h
  simp only [Cell.okWide, Cell.ok, ht] at h
theorem okw_str {P : Program} {W : World} {r : Reach} {b : Nat} {t : TypeId} {v : Value} (ht : P.underlying t = some .string) (h : Value.okWide P W r b t v) : ∀ a, v ≠ .agg a := by
  rintro a rfl
  unfold Value.okWide at h
  rw [ht] at h
  simp only [Cell.okWide, Cell.ok, ht] at h
end Go.Proofs.Ytecpnlhjjmcllaa
namespace Go.Proofs.Ytecpnlhjjmcllaa
open Go.ChangeShapes Go.WideShapes Go.ChangeAt Go.RowKit
section
variable {H : Type} {enc : TypeId × Value → H} {P : Program}
theorem trodAll_below (hl : laidOutB P = true) {W W' : World} (hb : Below W.heap.size W W') :
    ∀ {ts : List TypeId} {vs : List Value} {ds : List (DataW H)} {ps : List MemPlace},
      (∀ t ∈ ts, P.readableRec t = true ∧ t < P.types.size) → DataW.TrodAll enc P W 0 (fun _ => true) true ts vs ds ps →
      (∀ x ∈ ps, x.block < W.heap.size) → DataW.TrodAll enc P W' 0 (fun b => decide (b < W.heap.size)) true ts vs ds ps
  | [], _, _, _, _, h, _ => by
    obtain ⟨rfl, rfl, rfl⟩ := trodAll_nil h
    exact trodAll_mk0
  | t :: ts, _, _, _, hr, h, hlt => by
    obtain ⟨v, vs, d, ds, p, q, rfl, rfl, rfl, h0, h1⟩ := trodAll_cons h
    exact trodAll_cons_mk (Below.trod hl (hr t (by simp)).1 (hr t (by simp)).2 h0 hb (fun x hx => hlt x (by simp [hx])))
      (trodAll_below hl hb (fun t ht => hr t (by simp [ht])) h1 (fun x hx => hlt x (by simp [hx])))
theorem law_post {f : Func} {s : ChangeSpec} {W W' : World} {args : Array Value} {ds gs : List (DataW H)} {before : List MemPlace} {tb : TypeId}
    (hl : laidOutB P = true) (hr : (f.params.toList.all fun t => P.readableRec t && decide (t < P.types.size)) = true)
    (hres : f.resultTypes = #[tb]) (htb : P.underlying tb = some .bool) (hvars : s.vars = [])
    (hs1 : (s.fn H (ds ++ gs)).results = [.lit (.bool true)]) (hs2 : (s.fn H (ds ++ gs)).args = ds) (hs3 : (s.fn H (ds ++ gs)).vars = [])
    (hW : DataW.Whole enc P f.params.toList s.vars false W args.toList ds gs before) (hb : Below W.heap.size W W') :
    s.post enc P f false true false false W args (.bool true) W' := by
  have hW' := hW
  obtain ⟨p, q, hA, hV, rfl, hfz, hnd⟩ := hW
  have hr' : ∀ t ∈ f.params.toList, P.readableRec t = true ∧ t < P.types.size := by
    intro t ht
    have := List.all_eq_true.1 hr t ht
    simpa using this
  refine ⟨ds, gs, p ++ q, [], p, [], hW', ?_, ?_, ?_, hb.frame _, fun h => by cases h⟩
  · rw [hs1, hres]
    exact trodAll_mk1 (shut_bool htb true)
  · rw [hs2]
    exact trodAll_below hl hb hr' hA (fun x hx => by simpa using hW'.lt x (by simp [hx]))
  · rw [hs3, hvars]
    rfl
end
end Go.Proofs.Ytecpnlhjjmcllaa
namespace Go.Proofs.Ytecpnlhjjmcllaa
open Go.ChangeShapes Go.WideShapes Go.ChangeAt Go.RowKit
theorem cellsOf_s : Try.prog.cellsOf 9 = 1 := by kernel_rfl
theorem shapeL_sls {fuel : Nat} {cs : List AV} (h : ShapeL Try.prog reachBytes fuel 57 cs) : ∃ l : List ByteArray, cs = [.seq 1 (sls l)] ∧ ∀ s ∈ l, s.size ≤ reachBytes := by
  obtain ⟨n, es, _, rfl, _, h⟩ := shapeL_slice tu_57 h
  have key : ∀ es : List (List AV), (∀ x ∈ es, ShapeL Try.prog reachBytes n 9 x) → ∃ l : List ByteArray, es = sls l ∧ ∀ s ∈ l, s.size ≤ reachBytes := by
    intro es
    induction es with
    | nil => exact fun _ => ⟨[], rfl, by simp⟩
    | cons e es ih =>
      intro h
      obtain ⟨s, hs, rfl⟩ := shapeL_str tu_9 (h e (by simp))
      obtain ⟨l, rfl, hl⟩ := ih (fun x hx => h x (by simp [hx]))
      exact ⟨s :: l, rfl, by simp; exact ⟨hs, hl⟩⟩
  obtain ⟨l, rfl, hl⟩ := key es h
  exact ⟨l, by rw [cellsOf_s], hl⟩
abbrev SSK : List TypeId := [9, 57]
theorem closedK : closedL Try.prog SSK = true := by kernel_rfl
/-- the words of texts, in order -/
def wsL (l : List ByteArray) (k : Nat) : List Int := (List.range k).map fun j => 2 * ((adr (hT l) j : Nat) : Int)
theorem wsL_next (l : List ByteArray) (k : Nat) : (wsL l (k + 1)).map iv = (wsL l k).map iv ++ [iv (2 * ((adr (hT l) k : Nat) : Int))] := by simp [wsL, List.range_succ]
theorem wsL_len (l : List ByteArray) (k : Nat) : ((wsL l k).map iv).length = k := by simp [wsL]
theorem wsL_get (l : List ByteArray) {k i : Nat} (h : i < k) : ((wsL l k).map iv)[i]? = some [.val (.int .u64 (2 * ((adr (hT l) i : Nat) : Int)))] := by simp [wsL, h, iv]
theorem adr_take (l : List ByteArray) {k : Nat} {s : ByteArray} (h : l[k]? = some s) : adr (hT (l.take k ++ [s])) (l.take k).length = adr (hT l) k := by
  rw [← take_next h]
  have e : l = l.take (k + 1) ++ l.drop (k + 1) := (List.take_append_drop _ _).symm
  have hk := get_lt h
  conv => rhs; rw [e]
  rw [hT_adr _ _ (by rw [List.length_take]; omega), List.length_take, Nat.min_eq_left (by omega)]
theorem used_tot : ∀ l : List ByteArray, 8 * used (hT l) ≤ tot l + 23 * l.length
  | [] => by simp [hT, used_nil, tot]
  | s :: l => by
    have := used_tot l
    have h : used (hT (s :: l)) = (s.size + 7) / 8 + 2 + used (hT l) := by
      show used (textO s :: hT l) = _
      rw [used_cons, show (textO s).parts.length = (s.size + 7) / 8 + 1 from txt_len s]
    rw [h]
    simp only [tot, List.map_cons, List.sum_cons, List.length_cons] at this ⊢
    omega
theorem tot_take (l : List ByteArray) (k : Nat) : tot (l.take k) ≤ tot l := by
  have h : tot l = tot (l.take k ++ l.drop k) := by rw [List.take_append_drop]
  rw [h]
  simp only [tot, List.map_append, List.sum_append]
  omega
theorem tot_mem {l : List ByteArray} {s : ByteArray} (h : s ∈ l) : s.size ≤ tot l := by
  induction l with
  | nil => simp at h
  | cons x l ih =>
    simp only [tot, List.map_cons, List.sum_cons] at ih ⊢
    rcases List.mem_cons.1 h with rfl | h
    · omega
    · have := ih h; omega
theorem ksum (l : List ByteArray) (k : Nat) : used (hT (l.take k)) ≤ used (hT l) := by
  have := used_take (hT l) k
  unfold hT at this ⊢
  rwa [List.map_take]
set_option maxHeartbeats 4000000 in
set_option maxRecDepth 100000 in
theorem StrsKeep_c (l : List ByteArray) (hl : ∀ s ∈ l, s.size ≤ reachBytes) : ACall Try.prog 9 [.seq 1 (sls l)] [] (fun v _ => v = .val (.bool true)) := by
  have hS := small32_c l [] hl (by simp)
  have h1 := sls_len l
  have hsm : Small32 l [] ↔ tot l ≤ 4000 ∧ l.length ≤ 20 := by unfold Small32; simp [totR]
  rw [hsm] at hS
  have hut := used_tot l
  refine ACall.enter Try.func9 rfl (by kernel_rfl) rfl (Nat.le_of_ble_eq_true rfl) ?_
  refine c_start ?_
  refine c_seq ?_
  refine c_region ?_
  refine AOps.st 2 rfl rfl rfl (op_assign rfl rfl ?_)
  refine AOps.nil ?_
  refine go_code ?_
  refine c_seq ?_
  refine c_seq ?_
  refine c_region ?_
  refine AOps.st 24 rfl rfl rfl (op_callp (xs := []) rfl rfl (awake32_c) (by first | exact Les.refl _ | (repeat' (first | exact Les.refl _ | refine Les.cons ?_ ?_ | exact Le.refl _ | exact Le.own _ _ _ | exact Le.nil _ | refine Le.agg ?_))) ?_)
  refine AOps.st 25 rfl rfl rfl (op_notc rfl rfl ?_); intro c25 h25
  try replace h25 := nott h25 h24
  refine AOps.nil ?_
  refine go_code ?_
  rcases bool_split h25 with ⟨rfl, g25⟩ | ⟨rfl, g25⟩
  · refine c_cond_f rfl ?_
    refine c_skip ?_
    refine go_code ?_
    refine c_seq ?_
    refine c_seq ?_
    refine c_region ?_
    refine AOps.st 26 rfl rfl rfl (op_move rfl rfl ?_)
    refine AOps.st 27 rfl rfl rfl (op_callb (xs := [.tmp 26, .const (.slice none 0 0)]) rfl rfl (hS) (by first | exact Les.refl _ | (repeat' (first | exact Les.refl _ | refine Les.cons ?_ ?_ | exact Le.refl _ | exact Le.own _ _ _ | exact Le.nil _ | refine Le.agg ?_))) ?_); intro c27 h27
    refine AOps.st 28 rfl rfl rfl (op_notc rfl rfl ?_); intro c28 h28
    try replace h28 := nott h28 h27
    refine AOps.nil ?_
    refine go_code ?_
    rcases bool_split h28 with ⟨rfl, g28⟩ | ⟨rfl, g28⟩
    · refine c_cond_f rfl ?_
      refine c_skip ?_
      refine go_code ?_
      refine c_seq ?_
      refine c_region ?_
      refine AOps.st 30 rfl rfl rfl (op_callat [] (xs := [.const (.int .i64 20000)]) rfl rfl rfl (New_y 20000 (by omega) (by omega)) (by first | exact Les.refl _ | (repeat' (first | exact Les.refl _ | refine Les.cons ?_ ?_ | exact Le.refl _ | exact Le.own _ _ _ | exact Le.nil _ | refine Le.agg ?_))) ?_)
      rintro v1 M1 ⟨bb, rfl, hM0⟩
      refine AOps.st 29 rfl rfl rfl (op_move rfl rfl ?_)
      refine AOps.st 31 rfl rfl rfl (op_extract rfl rfl rfl ?_)
      refine AOps.st 32 rfl rfl rfl (op_extract rfl rfl rfl ?_)
      refine AOps.st 3 rfl rfl rfl (op_assign rfl rfl ?_)
      refine AOps.st 4 rfl rfl rfl (op_assign rfl rfl ?_)
      refine AOps.nil ?_
      refine go_code ?_
      refine c_seq ?_
      have hq := Classical.not_not.1 g28
      obtain ⟨ht, hll⟩ := hq
      have hss : ∀ s ∈ l, s.size ≤ 4000 := fun s hs => Nat.le_trans (tot_mem hs) ht
      obtain ⟨r0, r1, r2, rfl⟩ := hM0.three
      refine c_region ?_
      refine AOps.st 5 rfl rfl rfl (op_assign rfl rfl ?_)
      refine AOps.nil ?_
      refine go_code ?_
      refine c_seq ?_
      refine c_seq ?_
      refine ACode.ownNil (t := 5) 42 1 rfl ?_
      refine c_region ?_
      refine AOps.st 33 rfl rfl rfl (op_move rfl rfl ?_)
      first | (refine AOps.st 34 rfl rfl rfl (op_len rfl tu_57 rfl (.seq _ _) (fun n34 => ?_))) | (refine AOps.st 34 rfl rfl rfl (op_len rfl tu_57 rfl (.own _ _ _) (fun n34 => ?_))) | (refine AOps.st 34 rfl rfl rfl (op_len rfl tu_57 rfl (.nil 0) (fun n34 => ?_))) | (refine AOps.st 34 rfl rfl rfl (op_len_arr rfl tu_57 rfl ?_))
      refine AOps.st 35 rfl rfl rfl (op_move rfl rfl ?_)
      refine AOps.nil ?_
      refine go_code ?_
      refine c_block ?_
      apply c_loopk [1, 2, 4, 5, 6, 7, 8, 9, 15, 19, 23, 24, 25, 26, 27, 28, 29, 30, 31, 32, 35, 36, 37, 38, 39, 40, 41, 42, 43, 44, 45, 46, 47, 48, 49, 50, 51] (σ := Nat × Value × Res × Res × Res) (fun zz => match zz with | (k, u, q0, q1, q2) => [(35, .val (.int .i64 k)), (5, .own u 1 ((wsL l k).map iv))]) (fun zz => match zz with | (k, u, q0, q1, q2) => [.own 42 1 u, q0, q1, q2]) (fun zz => match zz with | (k, u, q0, q1, q2) => k ≤ l.length ∧ HeapAt bb 20000 (hT (l.take k)) [q0, q1, q2]) (fun zz => match zz with | (k, u, q0, q1, q2) => l.length - k) ((0, .slice none 0 0, r0, r1, r2))
      · repeat' (first | exact Drops.nil | apply Drops.keep rfl | apply Drops.skip rfl)
      · exact ⟨Nat.zero_le _, hM0⟩
      · exact (by repeat' (first | exact SLe.nil _ | refine SLe.cons rfl ?_ ?_ | exact Le.refl _ | exact Le.own _ _ _ | exact Le.nil _ | (refine Le.own_eq ?_; rfl) | (refine Le.own_seq ?_; rfl) | (refine Le.seq_eq ?_; rfl)))
      · exact (by first | exact MLe.none _ | exact MLe.refl _ | (repeat' (first | exact MLe.nil | exact MLe.refl _ | refine MLe.cons _ ?_ | refine MLe.drop _ ?_)))
      rintro ⟨k, u, q0, q1, q2⟩ hI
      try dsimp only [List.cons_append, List.nil_append] at hI ⊢
      obtain ⟨hk, hM⟩ := hI
      refine c_seq ?_
      refine c_region ?_
      refine AOps.st 36 rfl rfl rfl (op_lss rfl rfl rfl ?_); intro c36 h36
      refine AOps.nil ?_
      refine go_code ?_
      refine c_seq ?_
      rcases bool_split h36 with ⟨rfl, g36⟩ | ⟨rfl, g36⟩
      · refine c_cond_f rfl ?_
        refine c_exit ?_
        refine x_code ?_
        refine x_lp ?_
        refine x_here ?_
        refine go_code ?_
        refine c_seq ?_
        obtain rfl : k = l.length := by omega
        rw [List.take_length] at hM
        have hC := Collect_c bb 20000 (hT l) _ hM (by omega) (hT_ok (fun s hs => by have := hss s hs; omega)) (by omega) (fun o ho => by obtain ⟨s, _, rfl⟩ := List.mem_map.1 ho; rfl) (wsL l l.length) (by rw [hT_len]; rfl) (by rw [hT_len]; omega)
        refine c_region ?_
        refine AOps.st 52 rfl rfl rfl (op_move rfl rfl ?_)
        refine AOps.st 53 rfl rfl rfl (op_move rfl rfl ?_)
        refine AOps.st 54 rfl rfl rfl (op_callat [1,1,1] (xs := [.tmp 52, .tmp 53])  rfl rfl rfl hC (by first | exact Les.refl _ | (repeat' (first | exact Les.refl _ | refine Les.cons ?_ ?_ | exact Le.refl _ | exact Le.own _ _ _ | exact Le.nil _ | refine Le.agg ?_))) ?_)
        rintro v1 M1 ⟨rfl, hM⟩
        obtain ⟨p0, p1, p2, rfl⟩ := hM.three
        refine AOps.st 5 rfl rfl rfl (op_assign rfl rfl ?_)
        refine AOps.nil ?_
        refine go_code ?_
        refine c_seq ?_
        refine c_seq ?_
        have hwl := wsL_len l l.length
        refine c_le (al' := [(0, .seq 1 (sls l)), (3, .ptr bb 0), (5, .seq 1 ((wsL l l.length).map iv))]) (by repeat' (first | exact SLe.nil _ | refine SLe.cons rfl ?_ ?_ | exact Le.refl _ | exact Le.own _ _ _ | exact Le.nil _)) (MLe.refl _) ?_
        refine c_region ?_
        refine AOps.st 55 rfl rfl rfl (op_move rfl rfl ?_)
        first | (refine AOps.st 56 rfl rfl rfl (op_len rfl tu_34 rfl (.seq _ _) (fun n56 => ?_))) | (refine AOps.st 56 rfl rfl rfl (op_len rfl tu_34 rfl (.own _ _ _) (fun n56 => ?_))) | (refine AOps.st 56 rfl rfl rfl (op_len rfl tu_34 rfl (.nil 0) (fun n56 => ?_))) | (refine AOps.st 56 rfl rfl rfl (op_len_arr rfl tu_34 rfl ?_))
        refine AOps.st 57 rfl rfl rfl (op_move rfl rfl ?_)
        refine AOps.nil ?_
        refine go_code ?_
        refine c_block ?_
        apply c_loopk [1, 2, 4, 6, 7, 8, 9, 10, 11, 12, 13, 14, 15, 16, 17, 18, 19, 20, 21, 22, 23, 24, 25, 26, 27, 28, 29, 30, 31, 32, 33, 34, 35, 36, 37, 38, 39, 40, 41, 42, 43, 44, 45, 46, 47, 48, 49, 50, 51, 52, 53, 54, 57, 58, 59, 60, 61, 62, 63, 64, 65, 66, 67, 68, 69, 70, 71, 72, 73, 74, 75, 76, 77, 78, 79, 80, 81, 82, 83, 84, 85, 86, 87, 88, 89, 90, 91, 92, 93, 94, 95, 96, 97, 98, 99, 100, 101, 102, 103, 104, 105, 106, 107, 108, 109, 110, 111, 112, 113, 114, 115, 116, 117, 118, 119, 120, 121, 122, 123, 124, 125, 126, 127, 128, 129, 130, 131, 132, 133, 134, 135, 136, 137, 138, 139, 140] (σ := Nat × List ByteArray × Res × Res × Res) (fun zz => match zz with | (i, ex, q0, q1, q2) => [(57, .val (.int .i64 i))]) (fun zz => match zz with | (i, ex, q0, q1, q2) => [q0, q1, q2]) (fun zz => match zz with | (i, ex, q0, q1, q2) => i ≤ l.length ∧ HeapAt bb 20000 (hT (l ++ ex)) [q0, q1, q2] ∧ (∀ s ∈ ex, s.size ≤ 8000) ∧ 8 * used (hT (l ++ ex)) ≤ 8 * used (hT l) + 2 * tot (l.take i) + i * 4046) (fun zz => match zz with | (i, ex, q0, q1, q2) => l.length - i) ((0, [], p0, p1, p2))
        · repeat' (first | exact Drops.nil | apply Drops.keep rfl | apply Drops.skip rfl)
        · exact ⟨Nat.zero_le _, by simpa using hM, by simp, by simp [tot]⟩
        · exact (by repeat' (first | exact SLe.nil _ | refine SLe.cons rfl ?_ ?_ | exact Le.refl _ | exact Le.own _ _ _ | exact Le.nil _))
        · exact (by first | exact MLe.none _ | exact MLe.refl _ | (repeat' (first | exact MLe.nil | exact MLe.refl _ | refine MLe.cons _ ?_ | refine MLe.drop _ ?_)))
        rintro ⟨i, ex, q0, q1, q2⟩ hI
        try dsimp only [List.cons_append, List.nil_append] at hI ⊢
        obtain ⟨hi, hM, hex, hub⟩ := hI
        refine c_seq ?_
        refine c_region ?_
        refine AOps.st 58 rfl rfl rfl (op_lss rfl rfl rfl ?_); intro c58 h58
        refine AOps.nil ?_
        refine go_code ?_
        refine c_seq ?_
        rcases bool_split h58 with ⟨rfl, g58⟩ | ⟨rfl, g58⟩
        · refine c_cond_f rfl ?_
          refine c_exit ?_
          refine x_code ?_
          refine x_lp ?_
          refine x_here ?_
          refine go_code ?_
          refine c_seq ?_
          refine c_region ?_
          refine AOps.st 2 rfl rfl rfl (op_assign rfl rfl ?_)
          refine AOps.nil ?_
          refine go_code ?_
          refine c_ret ?_
          exact out_tmp rfl rfl (Le.refl _) (MLe.none _) rfl
        · refine c_cond_t rfl ?_
          refine c_skip ?_
          refine go_code ?_
          refine c_seq ?_
          refine c_block ?_
          refine c_seq ?_
          obtain ⟨s, hs⟩ := getk (l := l) (i := i) (by omega)
          obtain ⟨s0, hs0⟩ := getk (l := l) (i := 0) (by omega)
          have hg := sls_get hs
          have hg0 := sls_get hs0
          have hwg := wsL_get l (k := l.length) (i := i) (by omega)
          have hwg0 := wsL_get l (k := l.length) (i := 0) (by omega)
          have htt := tot_take l (i + 1)
          have htn := tot_next hs
          have hsl := hss s (List.mem_of_getElem? hs)
          have hsl0 := hss s0 (List.mem_of_getElem? hs0)
          have hb1 : ∀ s ∈ l ++ ex, s.size ≤ 1000000 := fun s hs => by
            rcases List.mem_append.1 hs with q | q
            · have := hss s q; omega
            · have := hex s q; omega
          have hgi : (l ++ ex)[i]? = some s := by rw [List.getElem?_append_left (get_lt hs)]; exact hs
          have hG := Get_t bb 20000 (l ++ ex) _ hM (by omega) hb1 (by omega) i s hgi
          rw [hT_adr l ex hi] at hG
          have hP := Put_t bb 20000 (l ++ ex) _ hM (by omega) (by omega) s (by omega) (by omega)
          have hu1 := hT_used (l ++ ex) s
          have hsz : (s ++ s0).size = s.size + s0.size := ByteArray.size_append
          have hu2 := hT_used ((l ++ ex) ++ [s]) (s ++ s0)
          clear hS hsm hC g28
          refine c_region ?_
          refine AOps.st 59 rfl rfl rfl (op_move rfl rfl ?_)
          first | (refine AOps.st 60 rfl rfl rfl (op_index rfl te_34 rfl (.seq _ _) rfl rfl (hwg) ?_)) | (refine AOps.st 60 rfl rfl rfl (op_index (i := 0) rfl te_34 rfl (.seq _ _) rfl rfl (by first | rfl | assumption) ?_)) | (refine AOps.st 60 rfl rfl rfl (op_index (i := 1) rfl te_34 rfl (.seq _ _) rfl rfl (by first | rfl | assumption) ?_)) | (refine AOps.st 60 rfl rfl rfl (op_index rfl te_34 rfl (.own _ _ _) rfl rfl (hwg) ?_)) | (refine AOps.st 60 rfl rfl rfl (op_index (i := 0) rfl te_34 rfl (.own _ _ _) rfl rfl (by first | rfl | assumption) ?_)) | (refine AOps.st 60 rfl rfl rfl (op_index (i := 1) rfl te_34 rfl (.own _ _ _) rfl rfl (by first | rfl | assumption) ?_)) | (refine AOps.st 60 rfl rfl rfl (op_index_arr rfl te_34 rfl rfl rfl (by omega) ?_))
          first | (refine AOps.st 61 rfl rfl rfl (op_load_m1 (i := 0) rfl ta_42 rfl rfl rfl ?_)) | (refine AOps.st 61 rfl rfl rfl (op_load_m1 (i := 1) rfl ta_42 rfl rfl rfl ?_)) | (refine AOps.st 61 rfl rfl rfl (op_load_m1 (i := 2) rfl ta_42 rfl rfl rfl ?_)) | (refine AOps.st 61 rfl rfl rfl (op_load_m1 (i := 3) rfl ta_42 rfl rfl rfl ?_)) | (refine AOps.st 61 rfl rfl rfl (op_load_m1 (i := 4) rfl ta_42 rfl rfl rfl ?_)) | (refine AOps.st 61 rfl rfl rfl (op_load_m1 (i := 5) rfl ta_42 rfl rfl rfl ?_)) | (refine AOps.st 61 rfl rfl rfl (op_load_m1 (i := 6) rfl ta_42 rfl rfl rfl ?_)) | (refine AOps.st 61 rfl rfl rfl (op_load_m1 (i := 7) rfl ta_42 rfl rfl rfl ?_)) | (refine AOps.st 61 rfl rfl rfl (op_load_m1 (i := 8) rfl ta_42 rfl rfl rfl ?_)) | (refine AOps.st 61 rfl rfl rfl (op_load_m1 (i := 9) rfl ta_42 rfl rfl rfl ?_)) | (refine AOps.st 61 rfl rfl rfl (op_load_c1 rfl ta_42 rfl rfl ?_))
          refine AOps.st 10 rfl rfl rfl (op_assign rfl rfl ?_)
          refine AOps.st 11 rfl rfl rfl (op_assign rfl rfl ?_)
          refine AOps.nil ?_
          refine go_code ?_
          refine c_seq ?_
          refine c_region ?_
          refine AOps.st 63 rfl rfl rfl (op_move rfl rfl ?_)
          refine AOps.st 64 rfl rfl rfl (op_move rfl rfl ?_)
          refine AOps.st 65 rfl rfl rfl (op_callk (xs := [.tmp 63, .tmp 64]) [0,0,0] rfl rfl rfl (hG) (by first | exact Les.refl _ | (repeat' (first | exact Les.refl _ | refine Les.cons ?_ ?_ | exact Le.refl _ | exact Le.own _ _ _ | exact Le.nil _ | refine Le.agg ?_))) ?_)
          refine AOps.st 62 rfl rfl rfl (op_move rfl rfl ?_)
          refine AOps.st 66 rfl rfl rfl (op_extract rfl rfl rfl ?_)
          refine AOps.st 67 rfl rfl rfl (op_extract rfl rfl rfl ?_)
          refine AOps.st 12 rfl rfl rfl (op_assign rfl rfl ?_)
          refine AOps.st 13 rfl rfl rfl (op_assign rfl rfl ?_)
          refine AOps.nil ?_
          refine go_code ?_
          refine c_seq ?_
          refine c_seq ?_
          refine c_bool 77 (False) ?_ _ _ rfl ?_
          · skip
            refine AOps.st 68 rfl rfl rfl (op_move rfl rfl ?_)
            refine AOps.st 69 rfl rfl rfl (op_notc rfl rfl ?_); intro c69 h69
            try replace h69 := nott h69 h67
            refine AOps.st 70 rfl rfl rfl (op_move rfl rfl ?_)
            rcases bool_split h69 with ⟨rfl, g69⟩ | ⟨rfl, g69⟩
            · skip
              refine AOps.gt 71 rfl rfl rfl rfl rfl (op_move rfl rfl ?_)
              refine AOps.gt 72 rfl rfl rfl rfl rfl (op_move rfl rfl ?_)
              refine AOps.gt 73 rfl rfl rfl rfl rfl (op_move rfl rfl ?_)
              first | (refine AOps.gt 74 rfl rfl rfl rfl rfl (op_index rfl te_57 rfl (.seq _ _) rfl rfl (hg) ?_)) | (refine AOps.gt 74 rfl rfl rfl rfl rfl (op_index (i := 0) rfl te_57 rfl (.seq _ _) rfl rfl (by first | rfl | assumption) ?_)) | (refine AOps.gt 74 rfl rfl rfl rfl rfl (op_index (i := 1) rfl te_57 rfl (.seq _ _) rfl rfl (by first | rfl | assumption) ?_)) | (refine AOps.gt 74 rfl rfl rfl rfl rfl (op_index rfl te_57 rfl (.own _ _ _) rfl rfl (hg) ?_)) | (refine AOps.gt 74 rfl rfl rfl rfl rfl (op_index (i := 0) rfl te_57 rfl (.own _ _ _) rfl rfl (by first | rfl | assumption) ?_)) | (refine AOps.gt 74 rfl rfl rfl rfl rfl (op_index (i := 1) rfl te_57 rfl (.own _ _ _) rfl rfl (by first | rfl | assumption) ?_)) | (refine AOps.gt 74 rfl rfl rfl rfl rfl (op_index_arr rfl te_57 rfl rfl rfl (by omega) ?_))
              first | (refine AOps.gt 75 rfl rfl rfl rfl rfl (op_load_m1 (i := 0) rfl ta_9 rfl rfl rfl ?_)) | (refine AOps.gt 75 rfl rfl rfl rfl rfl (op_load_m1 (i := 1) rfl ta_9 rfl rfl rfl ?_)) | (refine AOps.gt 75 rfl rfl rfl rfl rfl (op_load_m1 (i := 2) rfl ta_9 rfl rfl rfl ?_)) | (refine AOps.gt 75 rfl rfl rfl rfl rfl (op_load_m1 (i := 3) rfl ta_9 rfl rfl rfl ?_)) | (refine AOps.gt 75 rfl rfl rfl rfl rfl (op_load_m1 (i := 4) rfl ta_9 rfl rfl rfl ?_)) | (refine AOps.gt 75 rfl rfl rfl rfl rfl (op_load_m1 (i := 5) rfl ta_9 rfl rfl rfl ?_)) | (refine AOps.gt 75 rfl rfl rfl rfl rfl (op_load_m1 (i := 6) rfl ta_9 rfl rfl rfl ?_)) | (refine AOps.gt 75 rfl rfl rfl rfl rfl (op_load_m1 (i := 7) rfl ta_9 rfl rfl rfl ?_)) | (refine AOps.gt 75 rfl rfl rfl rfl rfl (op_load_m1 (i := 8) rfl ta_9 rfl rfl rfl ?_)) | (refine AOps.gt 75 rfl rfl rfl rfl rfl (op_load_m1 (i := 9) rfl ta_9 rfl rfl rfl ?_)) | (refine AOps.gt 75 rfl rfl rfl rfl rfl (op_load_c1 rfl ta_9 rfl rfl ?_))
              refine AOps.gt 76 rfl rfl rfl rfl rfl (op_sneq rfl rfl rfl ?_); intro c76 h76
              refine AOps.st 77 rfl rfl rfl (op_pick rfl rfl rfl ?_)
              refine AOps.nil ?_
              refine BoolQ.mk rfl ?_ (by repeat' (first | exact SLe.wo _ _ | exact SLe.refl _ | refine SLe.fresh rfl ?_)) (by first | exact MLe.none _ | exact MLe.refl _ | (repeat' (first | exact MLe.nil | exact MLe.refl _ | refine MLe.cons _ ?_ | refine MLe.drop _ ?_)))
              first | (simp_all; done) | grind
            · skip
              refine AOps.gf 71 rfl rfl rfl rfl rfl ?_
              refine AOps.gf 72 rfl rfl rfl rfl rfl ?_
              refine AOps.gf 73 rfl rfl rfl rfl rfl ?_
              refine AOps.gf 74 rfl rfl rfl rfl rfl ?_
              refine AOps.gf 75 rfl rfl rfl rfl rfl ?_
              refine AOps.gf 76 rfl rfl rfl rfl rfl ?_
              refine AOps.st 77 rfl rfl rfl (op_pick rfl rfl rfl ?_)
              refine AOps.nil ?_
              refine BoolQ.mk rfl ?_ (by repeat' (first | exact SLe.wo _ _ | exact SLe.refl _ | refine SLe.fresh rfl ?_)) (by first | exact MLe.none _ | exact MLe.refl _ | (repeat' (first | exact MLe.nil | exact MLe.refl _ | refine MLe.cons _ ?_ | refine MLe.drop _ ?_)))
              first | (simp_all; done) | grind
          intro c77 h77
          refine go_code ?_
          rcases bool_split h77 with ⟨rfl, g77⟩ | ⟨rfl, g77⟩
          · refine c_cond_f rfl ?_
            refine c_skip ?_
            refine go_code ?_
            refine c_seq ?_
            refine c_region ?_
            refine AOps.st 79 rfl rfl rfl (op_move rfl rfl ?_)
            refine AOps.st 80 rfl rfl rfl (op_move rfl rfl ?_)
            refine AOps.st 81 rfl rfl rfl (op_callat [0,0,0] (xs := [.tmp 79, .tmp 80])  rfl rfl rfl hP (by first | exact Les.refl _ | (repeat' (first | exact Les.refl _ | refine Les.cons ?_ ?_ | exact Le.refl _ | exact Le.own _ _ _ | exact Le.nil _ | refine Le.agg ?_))) ?_)
            rintro v1 M1 ⟨rfl, hM2⟩
            obtain ⟨p0, p1, p2, rfl⟩ := hM2.three
            have hb2 : ∀ s' ∈ (l ++ ex) ++ [s], s'.size ≤ 1000000 := fun s' hs' => by
              rcases List.mem_append.1 hs' with q | q
              · exact hb1 s' q
              · simp at q; subst q; omega
            have hO := Order_t bb 20000 ((l ++ ex) ++ [s]) _ hM2 (by omega) hb2 (by omega) i (l ++ ex).length s s (by rw [List.getElem?_append_left (get_lt hgi)]; exact hgi) (by simp)
            rw [show adr (hT ((l ++ ex) ++ [s])) i = adr (hT l) i by rw [List.append_assoc, hT_adr l _ hi], cmp_self] at hO
            have hCt := Cat_t bb 20000 ((l ++ ex) ++ [s]) _ hM2 (by omega) (by omega) hb2 (by omega) i 0 s s0 (by rw [List.getElem?_append_left (get_lt hgi)]; exact hgi) (by rw [List.append_assoc, List.getElem?_append_left (get_lt hs0)]; exact hs0) (by omega) (by omega)
            rw [show adr (hT ((l ++ ex) ++ [s])) i = adr (hT l) i by rw [List.append_assoc, hT_adr l _ hi], show adr (hT ((l ++ ex) ++ [s])) 0 = adr (hT l) 0 by rw [List.append_assoc, hT_adr l _ (Nat.zero_le _)]] at hCt
            refine AOps.st 78 rfl rfl rfl (op_move rfl rfl ?_)
            refine AOps.st 82 rfl rfl rfl (op_extract rfl rfl rfl ?_)
            refine AOps.st 83 rfl rfl rfl (op_extract rfl rfl rfl ?_)
            refine AOps.st 14 rfl rfl rfl (op_assign rfl rfl ?_)
            refine AOps.st 15 rfl rfl rfl (op_assign rfl rfl ?_)
            refine AOps.nil ?_
            refine go_code ?_
            refine c_seq ?_
            refine c_region ?_
            refine AOps.st 85 rfl rfl rfl (op_move rfl rfl ?_)
            refine AOps.st 86 rfl rfl rfl (op_move rfl rfl ?_)
            refine AOps.st 87 rfl rfl rfl (op_move rfl rfl ?_)
            refine AOps.st 88 rfl rfl rfl (op_callk (xs := [.tmp 85, .tmp 86, .tmp 87]) [0,0,0] rfl rfl rfl (hO) (by first | exact Les.refl _ | (repeat' (first | exact Les.refl _ | refine Les.cons ?_ ?_ | exact Le.refl _ | exact Le.own _ _ _ | exact Le.nil _ | refine Le.agg ?_))) ?_)
            refine AOps.st 84 rfl rfl rfl (op_move rfl rfl ?_)
            refine AOps.st 89 rfl rfl rfl (op_extract rfl rfl rfl ?_)
            refine AOps.st 90 rfl rfl rfl (op_extract rfl rfl rfl ?_)
            refine AOps.st 16 rfl rfl rfl (op_assign rfl rfl ?_)
            refine AOps.st 17 rfl rfl rfl (op_assign rfl rfl ?_)
            refine AOps.nil ?_
            refine go_code ?_
            refine c_seq ?_
            refine c_region ?_
            refine AOps.st 92 rfl rfl rfl (op_move rfl rfl ?_)
            refine AOps.st 93 rfl rfl rfl (op_move rfl rfl ?_)
            refine AOps.st 94 rfl rfl rfl (op_move rfl rfl ?_)
            first | (refine AOps.st 95 rfl rfl rfl (op_index rfl te_34 rfl (.seq _ _) rfl rfl (hwg0) ?_)) | (refine AOps.st 95 rfl rfl rfl (op_index (i := 0) rfl te_34 rfl (.seq _ _) rfl rfl (by first | rfl | assumption) ?_)) | (refine AOps.st 95 rfl rfl rfl (op_index (i := 1) rfl te_34 rfl (.seq _ _) rfl rfl (by first | rfl | assumption) ?_)) | (refine AOps.st 95 rfl rfl rfl (op_index rfl te_34 rfl (.own _ _ _) rfl rfl (hwg0) ?_)) | (refine AOps.st 95 rfl rfl rfl (op_index (i := 0) rfl te_34 rfl (.own _ _ _) rfl rfl (by first | rfl | assumption) ?_)) | (refine AOps.st 95 rfl rfl rfl (op_index (i := 1) rfl te_34 rfl (.own _ _ _) rfl rfl (by first | rfl | assumption) ?_)) | (refine AOps.st 95 rfl rfl rfl (op_index (i := 0) rfl te_34 rfl (.seq _ _) rfl (by first | rfl | omega) (hwg0) ?_)) | (refine AOps.st 95 rfl rfl rfl (op_index (i := 0) rfl te_34 rfl (.own _ _ _) rfl (by first | rfl | omega) (hwg0) ?_)) | (refine AOps.st 95 rfl rfl rfl (op_index_arr rfl te_34 rfl rfl rfl (by omega) ?_))
            first | (refine AOps.st 96 rfl rfl rfl (op_load_m1 (i := 0) rfl ta_42 rfl rfl rfl ?_)) | (refine AOps.st 96 rfl rfl rfl (op_load_m1 (i := 1) rfl ta_42 rfl rfl rfl ?_)) | (refine AOps.st 96 rfl rfl rfl (op_load_m1 (i := 2) rfl ta_42 rfl rfl rfl ?_)) | (refine AOps.st 96 rfl rfl rfl (op_load_m1 (i := 3) rfl ta_42 rfl rfl rfl ?_)) | (refine AOps.st 96 rfl rfl rfl (op_load_m1 (i := 4) rfl ta_42 rfl rfl rfl ?_)) | (refine AOps.st 96 rfl rfl rfl (op_load_m1 (i := 5) rfl ta_42 rfl rfl rfl ?_)) | (refine AOps.st 96 rfl rfl rfl (op_load_m1 (i := 6) rfl ta_42 rfl rfl rfl ?_)) | (refine AOps.st 96 rfl rfl rfl (op_load_m1 (i := 7) rfl ta_42 rfl rfl rfl ?_)) | (refine AOps.st 96 rfl rfl rfl (op_load_m1 (i := 8) rfl ta_42 rfl rfl rfl ?_)) | (refine AOps.st 96 rfl rfl rfl (op_load_m1 (i := 9) rfl ta_42 rfl rfl rfl ?_)) | (refine AOps.st 96 rfl rfl rfl (op_load_c1 rfl ta_42 rfl rfl ?_))
            refine AOps.st 97 rfl rfl rfl (op_callat [0,0,0] (xs := [.tmp 92, .tmp 93, .tmp 96])  rfl rfl rfl hCt (by first | exact Les.refl _ | (repeat' (first | exact Les.refl _ | refine Les.cons ?_ ?_ | exact Le.refl _ | exact Le.own _ _ _ | exact Le.nil _ | refine Le.agg ?_))) ?_)
            rintro v1 M1 ⟨rfl, hM3⟩
            obtain ⟨p0, p1, p2, rfl⟩ := hM3.three
            have hb3 : ∀ s' ∈ (l ++ ex) ++ [s] ++ [s ++ s0], s'.size ≤ 1000000 := fun s' hs' => by
              rcases List.mem_append.1 hs' with q | q
              · exact hb2 s' q
              · simp at q; subst q; omega
            have hG3 := Get_t bb 20000 ((l ++ ex) ++ [s] ++ [s ++ s0]) _ hM3 (by omega) hb3 (by omega) ((l ++ ex) ++ [s]).length (s ++ s0) (by simp)
            have hL3 := Len_t bb 20000 ((l ++ ex) ++ [s] ++ [s ++ s0]) _ hM3 (by omega) hb3 (by omega) ((l ++ ex) ++ [s]).length (s ++ s0) (by simp)
            refine AOps.st 91 rfl rfl rfl (op_move rfl rfl ?_)
            refine AOps.st 98 rfl rfl rfl (op_extract rfl rfl rfl ?_)
            refine AOps.st 99 rfl rfl rfl (op_extract rfl rfl rfl ?_)
            refine AOps.st 18 rfl rfl rfl (op_assign rfl rfl ?_)
            refine AOps.st 19 rfl rfl rfl (op_assign rfl rfl ?_)
            refine AOps.nil ?_
            refine go_code ?_
            refine c_seq ?_
            refine c_region ?_
            refine AOps.st 101 rfl rfl rfl (op_move rfl rfl ?_)
            refine AOps.st 102 rfl rfl rfl (op_move rfl rfl ?_)
            refine AOps.st 103 rfl rfl rfl (op_callk (xs := [.tmp 101, .tmp 102]) [0,0,0] rfl rfl rfl (hG3) (by first | exact Les.refl _ | (repeat' (first | exact Les.refl _ | refine Les.cons ?_ ?_ | exact Le.refl _ | exact Le.own _ _ _ | exact Le.nil _ | refine Le.agg ?_))) ?_)
            refine AOps.st 100 rfl rfl rfl (op_move rfl rfl ?_)
            refine AOps.st 104 rfl rfl rfl (op_extract rfl rfl rfl ?_)
            refine AOps.st 105 rfl rfl rfl (op_extract rfl rfl rfl ?_)
            refine AOps.st 20 rfl rfl rfl (op_assign rfl rfl ?_)
            refine AOps.st 21 rfl rfl rfl (op_assign rfl rfl ?_)
            refine AOps.nil ?_
            refine go_code ?_
            refine c_seq ?_
            refine c_region ?_
            refine AOps.st 107 rfl rfl rfl (op_move rfl rfl ?_)
            refine AOps.st 108 rfl rfl rfl (op_move rfl rfl ?_)
            refine AOps.st 109 rfl rfl rfl (op_callk (xs := [.tmp 107, .tmp 108]) [0,0,0] rfl rfl rfl (hL3) (by first | exact Les.refl _ | (repeat' (first | exact Les.refl _ | refine Les.cons ?_ ?_ | exact Le.refl _ | exact Le.own _ _ _ | exact Le.nil _ | refine Le.agg ?_))) ?_)
            refine AOps.st 106 rfl rfl rfl (op_move rfl rfl ?_)
            refine AOps.st 110 rfl rfl rfl (op_extract rfl rfl rfl ?_)
            refine AOps.st 111 rfl rfl rfl (op_extract rfl rfl rfl ?_)
            refine AOps.st 22 rfl rfl rfl (op_assign rfl rfl ?_)
            refine AOps.st 23 rfl rfl rfl (op_assign rfl rfl ?_)
            refine AOps.nil ?_
            refine go_code ?_
            refine c_seq ?_
            refine c_boold 139 (False) tmix rfl ?_ _ _ rfl ?_
            · skip
              refine DOps.st 112 rfl rfl (op_move rfl rfl ⟨rfl, rfl⟩) ?_
              refine DOps.cm 113 rfl rfl (fun _ q => op_notc rfl rfl q) ?_; intro c113 h113
              try replace h113 := nott h113 h90
              refine DOps.st 114 rfl rfl (op_move rfl rfl ⟨rfl, rfl⟩) ?_
              rcases bool_split h113 with ⟨rfl, g113⟩ | ⟨rfl, g113⟩
              · skip
                refine DOps.gt 115 rfl rfl rfl rfl (op_move rfl rfl ⟨rfl, rfl⟩) ?_
                refine DOps.gtc 116 rfl rfl rfl rfl (fun _ q => op_neq rfl rfl rfl q) ?_; intro c116 h116
                refine DOps.st 117 rfl rfl (op_pick rfl rfl rfl ⟨rfl, rfl⟩) ?_
                refine DOps.st 118 rfl rfl (op_move rfl rfl ⟨rfl, rfl⟩) ?_
                rcases bool_split h116 with ⟨rfl, g116⟩ | ⟨rfl, g116⟩
                · skip
                  refine DOps.gt 119 rfl rfl rfl rfl (op_move rfl rfl ⟨rfl, rfl⟩) ?_
                  refine DOps.gtc 120 rfl rfl rfl rfl (fun _ q => op_notc rfl rfl q) ?_; intro c120 h120
                  try replace h120 := nott h120 h105
                  refine DOps.st 121 rfl rfl (op_pick rfl rfl rfl ⟨rfl, rfl⟩) ?_
                  refine DOps.st 122 rfl rfl (op_move rfl rfl ⟨rfl, rfl⟩) ?_
                  rcases bool_split h120 with ⟨rfl, g120⟩ | ⟨rfl, g120⟩
                  · skip
                    refine DOps.gt 123 rfl rfl rfl rfl (op_move rfl rfl ⟨rfl, rfl⟩) ?_
                    refine DOps.gt 124 rfl rfl rfl rfl (op_move rfl rfl ⟨rfl, rfl⟩) ?_
                    refine DOps.gt 125 rfl rfl rfl rfl (op_move rfl rfl ⟨rfl, rfl⟩) ?_
                    first | (refine DOps.gt 126 rfl rfl rfl rfl (op_index rfl te_57 rfl (.seq _ _) rfl rfl (by first | exact hg | exact hg0) ⟨rfl, rfl⟩) ?_) | (refine DOps.gt 126 rfl rfl rfl rfl (op_index (i := 0) rfl te_57 rfl (.seq _ _) rfl rfl (by first | rfl | assumption) ⟨rfl, rfl⟩) ?_) | (refine DOps.gt 126 rfl rfl rfl rfl (op_index (i := 1) rfl te_57 rfl (.seq _ _) rfl rfl (by first | rfl | assumption) ⟨rfl, rfl⟩) ?_) | (refine DOps.gt 126 rfl rfl rfl rfl (op_index rfl te_57 rfl (.own _ _ _) rfl rfl (by first | exact hg | exact hg0) ⟨rfl, rfl⟩) ?_) | (refine DOps.gt 126 rfl rfl rfl rfl (op_index (i := 0) rfl te_57 rfl (.own _ _ _) rfl rfl (by first | rfl | assumption) ⟨rfl, rfl⟩) ?_) | (refine DOps.gt 126 rfl rfl rfl rfl (op_index (i := 1) rfl te_57 rfl (.own _ _ _) rfl rfl (by first | rfl | assumption) ⟨rfl, rfl⟩) ?_) | (refine DOps.gt 126 rfl rfl rfl rfl (op_index (i := 0) rfl te_57 rfl (.seq _ _) rfl (by first | rfl | omega) (by first | exact hg | exact hg0) ⟨rfl, rfl⟩) ?_) | (refine DOps.gt 126 rfl rfl rfl rfl (op_index (i := i) rfl te_57 rfl (.seq _ _) rfl (by first | rfl | omega) (by first | exact hg | exact hg0) ⟨rfl, rfl⟩) ?_) | (refine DOps.gt 126 rfl rfl rfl rfl (op_index (i := 0) rfl te_57 rfl (.own _ _ _) rfl (by first | rfl | omega) (by first | exact hg | exact hg0) ⟨rfl, rfl⟩) ?_) | (refine DOps.gt 126 rfl rfl rfl rfl (op_index (i := i) rfl te_57 rfl (.own _ _ _) rfl (by first | rfl | omega) (by first | exact hg | exact hg0) ⟨rfl, rfl⟩) ?_) | (refine DOps.gt 126 rfl rfl rfl rfl (op_index_arr rfl te_57 rfl rfl rfl (by omega) ⟨rfl, rfl⟩) ?_)
                    first | (refine DOps.gt 127 rfl rfl rfl rfl (op_load_m1 (i := 0) rfl ta_9 rfl rfl rfl ⟨rfl, rfl⟩) ?_) | (refine DOps.gt 127 rfl rfl rfl rfl (op_load_m1 (i := 1) rfl ta_9 rfl rfl rfl ⟨rfl, rfl⟩) ?_) | (refine DOps.gt 127 rfl rfl rfl rfl (op_load_m1 (i := 2) rfl ta_9 rfl rfl rfl ⟨rfl, rfl⟩) ?_) | (refine DOps.gt 127 rfl rfl rfl rfl (op_load_m1 (i := 3) rfl ta_9 rfl rfl rfl ⟨rfl, rfl⟩) ?_) | (refine DOps.gt 127 rfl rfl rfl rfl (op_load_m1 (i := 4) rfl ta_9 rfl rfl rfl ⟨rfl, rfl⟩) ?_) | (refine DOps.gt 127 rfl rfl rfl rfl (op_load_m1 (i := 5) rfl ta_9 rfl rfl rfl ⟨rfl, rfl⟩) ?_) | (refine DOps.gt 127 rfl rfl rfl rfl (op_load_m1 (i := 6) rfl ta_9 rfl rfl rfl ⟨rfl, rfl⟩) ?_) | (refine DOps.gt 127 rfl rfl rfl rfl (op_load_m1 (i := 7) rfl ta_9 rfl rfl rfl ⟨rfl, rfl⟩) ?_) | (refine DOps.gt 127 rfl rfl rfl rfl (op_load_m1 (i := 8) rfl ta_9 rfl rfl rfl ⟨rfl, rfl⟩) ?_) | (refine DOps.gt 127 rfl rfl rfl rfl (op_load_m1 (i := 9) rfl ta_9 rfl rfl rfl ⟨rfl, rfl⟩) ?_) | (refine DOps.gt 127 rfl rfl rfl rfl (op_load_c1 rfl ta_9 rfl rfl ⟨rfl, rfl⟩) ?_)
                    refine DOps.gt 128 rfl rfl rfl rfl (op_move rfl rfl ⟨rfl, rfl⟩) ?_
                    first | (refine DOps.gt 129 rfl rfl rfl rfl (op_index rfl te_57 rfl (.seq _ _) rfl rfl (by first | exact hg | exact hg0) ⟨rfl, rfl⟩) ?_) | (refine DOps.gt 129 rfl rfl rfl rfl (op_index (i := 0) rfl te_57 rfl (.seq _ _) rfl rfl (by first | rfl | assumption) ⟨rfl, rfl⟩) ?_) | (refine DOps.gt 129 rfl rfl rfl rfl (op_index (i := 1) rfl te_57 rfl (.seq _ _) rfl rfl (by first | rfl | assumption) ⟨rfl, rfl⟩) ?_) | (refine DOps.gt 129 rfl rfl rfl rfl (op_index rfl te_57 rfl (.own _ _ _) rfl rfl (by first | exact hg | exact hg0) ⟨rfl, rfl⟩) ?_) | (refine DOps.gt 129 rfl rfl rfl rfl (op_index (i := 0) rfl te_57 rfl (.own _ _ _) rfl rfl (by first | rfl | assumption) ⟨rfl, rfl⟩) ?_) | (refine DOps.gt 129 rfl rfl rfl rfl (op_index (i := 1) rfl te_57 rfl (.own _ _ _) rfl rfl (by first | rfl | assumption) ⟨rfl, rfl⟩) ?_) | (refine DOps.gt 129 rfl rfl rfl rfl (op_index (i := 0) rfl te_57 rfl (.seq _ _) rfl (by first | rfl | omega) (by first | exact hg | exact hg0) ⟨rfl, rfl⟩) ?_) | (refine DOps.gt 129 rfl rfl rfl rfl (op_index (i := i) rfl te_57 rfl (.seq _ _) rfl (by first | rfl | omega) (by first | exact hg | exact hg0) ⟨rfl, rfl⟩) ?_) | (refine DOps.gt 129 rfl rfl rfl rfl (op_index (i := 0) rfl te_57 rfl (.own _ _ _) rfl (by first | rfl | omega) (by first | exact hg | exact hg0) ⟨rfl, rfl⟩) ?_) | (refine DOps.gt 129 rfl rfl rfl rfl (op_index (i := i) rfl te_57 rfl (.own _ _ _) rfl (by first | rfl | omega) (by first | exact hg | exact hg0) ⟨rfl, rfl⟩) ?_) | (refine DOps.gt 129 rfl rfl rfl rfl (op_index_arr rfl te_57 rfl rfl rfl (by omega) ⟨rfl, rfl⟩) ?_)
                    first | (refine DOps.gt 130 rfl rfl rfl rfl (op_load_m1 (i := 0) rfl ta_9 rfl rfl rfl ⟨rfl, rfl⟩) ?_) | (refine DOps.gt 130 rfl rfl rfl rfl (op_load_m1 (i := 1) rfl ta_9 rfl rfl rfl ⟨rfl, rfl⟩) ?_) | (refine DOps.gt 130 rfl rfl rfl rfl (op_load_m1 (i := 2) rfl ta_9 rfl rfl rfl ⟨rfl, rfl⟩) ?_) | (refine DOps.gt 130 rfl rfl rfl rfl (op_load_m1 (i := 3) rfl ta_9 rfl rfl rfl ⟨rfl, rfl⟩) ?_) | (refine DOps.gt 130 rfl rfl rfl rfl (op_load_m1 (i := 4) rfl ta_9 rfl rfl rfl ⟨rfl, rfl⟩) ?_) | (refine DOps.gt 130 rfl rfl rfl rfl (op_load_m1 (i := 5) rfl ta_9 rfl rfl rfl ⟨rfl, rfl⟩) ?_) | (refine DOps.gt 130 rfl rfl rfl rfl (op_load_m1 (i := 6) rfl ta_9 rfl rfl rfl ⟨rfl, rfl⟩) ?_) | (refine DOps.gt 130 rfl rfl rfl rfl (op_load_m1 (i := 7) rfl ta_9 rfl rfl rfl ⟨rfl, rfl⟩) ?_) | (refine DOps.gt 130 rfl rfl rfl rfl (op_load_m1 (i := 8) rfl ta_9 rfl rfl rfl ⟨rfl, rfl⟩) ?_) | (refine DOps.gt 130 rfl rfl rfl rfl (op_load_m1 (i := 9) rfl ta_9 rfl rfl rfl ⟨rfl, rfl⟩) ?_) | (refine DOps.gt 130 rfl rfl rfl rfl (op_load_c1 rfl ta_9 rfl rfl ⟨rfl, rfl⟩) ?_)
                    refine DOps.gt 131 rfl rfl rfl rfl (op_sadd rfl rfl rfl (by omega) ⟨rfl, rfl⟩) ?_
                    refine DOps.gtc 132 rfl rfl rfl rfl (fun _ q => op_sneq rfl rfl rfl q) ?_; intro c132 h132
                    refine DOps.st 133 rfl rfl (op_pick rfl rfl rfl ⟨rfl, rfl⟩) ?_
                    refine DOps.st 134 rfl rfl (op_move rfl rfl ⟨rfl, rfl⟩) ?_
                    rcases bool_split h132 with ⟨rfl, g132⟩ | ⟨rfl, g132⟩
                    · skip
                      refine DOps.gt 135 rfl rfl rfl rfl (op_move rfl rfl ⟨rfl, rfl⟩) ?_
                      refine DOps.gt 136 rfl rfl rfl rfl (op_move rfl rfl ⟨rfl, rfl⟩) ?_
                      refine DOps.gt 137 rfl rfl rfl rfl (op_len_str rfl tu_9 rfl ⟨rfl, rfl⟩) ?_
                      refine DOps.gtc 138 rfl rfl rfl rfl (fun _ q => op_neq rfl rfl rfl q) ?_; intro c138 h138
                      refine DOps.st 139 rfl rfl (op_pick rfl rfl rfl ⟨rfl, rfl⟩) ?_
                      show BoolQ _ _ _ _ _ _
                      refine BoolQ.mk rfl ?_ (by repeat' (first | exact SLe.wo _ _ | exact SLe.refl _ | refine SLe.fresh rfl ?_)) (by first | exact MLe.none _ | exact MLe.refl _ | (repeat' (first | exact MLe.nil | exact MLe.refl _ | refine MLe.cons _ ?_ | refine MLe.drop _ ?_)))
                      clear hb1 hb2 hb3 hss hex hM hM2 hM3 hG hP hO hCt hG3 hL3
                      first | (simp_all; done) | grind
                    · skip
                      refine DOps.gf 135 rfl rfl rfl rfl ?_
                      refine DOps.gf 136 rfl rfl rfl rfl ?_
                      refine DOps.gf 137 rfl rfl rfl rfl ?_
                      refine DOps.gf 138 rfl rfl rfl rfl ?_
                      refine DOps.st 139 rfl rfl (op_pick rfl rfl rfl ⟨rfl, rfl⟩) ?_
                      show BoolQ _ _ _ _ _ _
                      refine BoolQ.mk rfl ?_ (by repeat' (first | exact SLe.wo _ _ | exact SLe.refl _ | refine SLe.fresh rfl ?_)) (by first | exact MLe.none _ | exact MLe.refl _ | (repeat' (first | exact MLe.nil | exact MLe.refl _ | refine MLe.cons _ ?_ | refine MLe.drop _ ?_)))
                      clear hb1 hb2 hb3 hss hex hM hM2 hM3 hG hP hO hCt hG3 hL3
                      first | (simp_all; done) | grind
                  · skip
                    refine DOps.gf 123 rfl rfl rfl rfl ?_
                    refine DOps.gf 124 rfl rfl rfl rfl ?_
                    refine DOps.gf 125 rfl rfl rfl rfl ?_
                    refine DOps.gf 126 rfl rfl rfl rfl ?_
                    refine DOps.gf 127 rfl rfl rfl rfl ?_
                    refine DOps.gf 128 rfl rfl rfl rfl ?_
                    refine DOps.gf 129 rfl rfl rfl rfl ?_
                    refine DOps.gf 130 rfl rfl rfl rfl ?_
                    refine DOps.gf 131 rfl rfl rfl rfl ?_
                    refine DOps.gf 132 rfl rfl rfl rfl ?_
                    refine DOps.st 133 rfl rfl (op_pick rfl rfl rfl ⟨rfl, rfl⟩) ?_
                    refine DOps.st 134 rfl rfl (op_move rfl rfl ⟨rfl, rfl⟩) ?_
                    refine DOps.gf 135 rfl rfl rfl rfl ?_
                    refine DOps.gf 136 rfl rfl rfl rfl ?_
                    refine DOps.gf 137 rfl rfl rfl rfl ?_
                    refine DOps.gf 138 rfl rfl rfl rfl ?_
                    refine DOps.st 139 rfl rfl (op_pick rfl rfl rfl ⟨rfl, rfl⟩) ?_
                    show BoolQ _ _ _ _ _ _
                    refine BoolQ.mk rfl ?_ (by repeat' (first | exact SLe.wo _ _ | exact SLe.refl _ | refine SLe.fresh rfl ?_)) (by first | exact MLe.none _ | exact MLe.refl _ | (repeat' (first | exact MLe.nil | exact MLe.refl _ | refine MLe.cons _ ?_ | refine MLe.drop _ ?_)))
                    clear hb1 hb2 hb3 hss hex hM hM2 hM3 hG hP hO hCt hG3 hL3
                    first | (simp_all; done) | grind
                · skip
                  refine DOps.gf 119 rfl rfl rfl rfl ?_
                  refine DOps.gf 120 rfl rfl rfl rfl ?_
                  refine DOps.st 121 rfl rfl (op_pick rfl rfl rfl ⟨rfl, rfl⟩) ?_
                  refine DOps.st 122 rfl rfl (op_move rfl rfl ⟨rfl, rfl⟩) ?_
                  refine DOps.gf 123 rfl rfl rfl rfl ?_
                  refine DOps.gf 124 rfl rfl rfl rfl ?_
                  refine DOps.gf 125 rfl rfl rfl rfl ?_
                  refine DOps.gf 126 rfl rfl rfl rfl ?_
                  refine DOps.gf 127 rfl rfl rfl rfl ?_
                  refine DOps.gf 128 rfl rfl rfl rfl ?_
                  refine DOps.gf 129 rfl rfl rfl rfl ?_
                  refine DOps.gf 130 rfl rfl rfl rfl ?_
                  refine DOps.gf 131 rfl rfl rfl rfl ?_
                  refine DOps.gf 132 rfl rfl rfl rfl ?_
                  refine DOps.st 133 rfl rfl (op_pick rfl rfl rfl ⟨rfl, rfl⟩) ?_
                  refine DOps.st 134 rfl rfl (op_move rfl rfl ⟨rfl, rfl⟩) ?_
                  refine DOps.gf 135 rfl rfl rfl rfl ?_
                  refine DOps.gf 136 rfl rfl rfl rfl ?_
                  refine DOps.gf 137 rfl rfl rfl rfl ?_
                  refine DOps.gf 138 rfl rfl rfl rfl ?_
                  refine DOps.st 139 rfl rfl (op_pick rfl rfl rfl ⟨rfl, rfl⟩) ?_
                  show BoolQ _ _ _ _ _ _
                  refine BoolQ.mk rfl ?_ (by repeat' (first | exact SLe.wo _ _ | exact SLe.refl _ | refine SLe.fresh rfl ?_)) (by first | exact MLe.none _ | exact MLe.refl _ | (repeat' (first | exact MLe.nil | exact MLe.refl _ | refine MLe.cons _ ?_ | refine MLe.drop _ ?_)))
                  clear hb1 hb2 hb3 hss hex hM hM2 hM3 hG hP hO hCt hG3 hL3
                  first | (simp_all; done) | grind
              · skip
                refine DOps.gf 115 rfl rfl rfl rfl ?_
                refine DOps.gf 116 rfl rfl rfl rfl ?_
                refine DOps.st 117 rfl rfl (op_pick rfl rfl rfl ⟨rfl, rfl⟩) ?_
                refine DOps.st 118 rfl rfl (op_move rfl rfl ⟨rfl, rfl⟩) ?_
                refine DOps.gf 119 rfl rfl rfl rfl ?_
                refine DOps.gf 120 rfl rfl rfl rfl ?_
                refine DOps.st 121 rfl rfl (op_pick rfl rfl rfl ⟨rfl, rfl⟩) ?_
                refine DOps.st 122 rfl rfl (op_move rfl rfl ⟨rfl, rfl⟩) ?_
                refine DOps.gf 123 rfl rfl rfl rfl ?_
                refine DOps.gf 124 rfl rfl rfl rfl ?_
                refine DOps.gf 125 rfl rfl rfl rfl ?_
                refine DOps.gf 126 rfl rfl rfl rfl ?_
                refine DOps.gf 127 rfl rfl rfl rfl ?_
                refine DOps.gf 128 rfl rfl rfl rfl ?_
                refine DOps.gf 129 rfl rfl rfl rfl ?_
                refine DOps.gf 130 rfl rfl rfl rfl ?_
                refine DOps.gf 131 rfl rfl rfl rfl ?_
                refine DOps.gf 132 rfl rfl rfl rfl ?_
                refine DOps.st 133 rfl rfl (op_pick rfl rfl rfl ⟨rfl, rfl⟩) ?_
                refine DOps.st 134 rfl rfl (op_move rfl rfl ⟨rfl, rfl⟩) ?_
                refine DOps.gf 135 rfl rfl rfl rfl ?_
                refine DOps.gf 136 rfl rfl rfl rfl ?_
                refine DOps.gf 137 rfl rfl rfl rfl ?_
                refine DOps.gf 138 rfl rfl rfl rfl ?_
                refine DOps.st 139 rfl rfl (op_pick rfl rfl rfl ⟨rfl, rfl⟩) ?_
                show BoolQ _ _ _ _ _ _
                refine BoolQ.mk rfl ?_ (by repeat' (first | exact SLe.wo _ _ | exact SLe.refl _ | refine SLe.fresh rfl ?_)) (by first | exact MLe.none _ | exact MLe.refl _ | (repeat' (first | exact MLe.nil | exact MLe.refl _ | refine MLe.cons _ ?_ | refine MLe.drop _ ?_)))
                clear hb1 hb2 hb3 hss hex hM hM2 hM3 hG hP hO hCt hG3 hL3
                first | (simp_all; done) | grind
            intro c139 h139
            refine go_code ?_
            rcases bool_split h139 with ⟨rfl, g139⟩ | ⟨rfl, g139⟩
            · refine c_cond_f rfl ?_
              refine c_skip ?_
              refine go_blk ?_
              refine go_code ?_
              refine c_region ?_
              first | (refine AOps.st 140 rfl rfl rfl (op_add rfl rfl rfl (IntWalk.i64_in _ (by omega)) ?_)) | (refine AOps.st 140 rfl rfl rfl (op_add rfl rfl rfl rfl ?_))
              refine AOps.st 57 rfl rfl rfl (op_move rfl rfl ?_)
              refine AOps.nil ?_
              refine go_lp ?_
              refine ⟨(i + 1, ex ++ [s] ++ [s ++ s0], p0, p1, p2), ⟨by have := get_lt hs; show i + 1 ≤ _; omega, by simpa using hM3, fun s' hs' => ?_, ?_⟩, by have := get_lt hs; show l.length - (i + 1) < l.length - i; omega, (by repeat' (first | exact SLe.nil _ | refine SLe.cons rfl ?_ ?_ | exact Le.refl _ | exact Le.own _ _ _ | exact Le.nil _)), (by first | exact MLe.none _ | exact MLe.refl _ | (repeat' (first | exact MLe.nil | exact MLe.refl _ | refine MLe.cons _ ?_ | refine MLe.drop _ ?_)))⟩
              · rcases List.mem_append.1 hs' with q | q
                · rcases List.mem_append.1 q with q | q
                  · exact hex s' q
                  · simp at q; subst q; omega
                · simp at q; subst q; omega
              · show 8 * used (hT (l ++ (ex ++ [s] ++ [s ++ s0]))) ≤ _
                rw [← List.append_assoc, ← List.append_assoc, hu2, hu1, htn]
                omega
            · refine c_cond_t rfl ?_
              refine c_seq ?_
              exact g139.elim
          · refine c_cond_t rfl ?_
            refine c_seq ?_
            exact g77.elim
      · refine c_cond_t rfl ?_
        refine c_skip ?_
        refine go_code ?_
        refine c_seq ?_
        refine c_block ?_
        refine c_seq ?_
        obtain ⟨s, hs⟩ := getk (l := l) (i := k) (by omega)
        have hg := sls_get hs
        have hsl := hss s (List.mem_of_getElem? hs)
        have hku := ksum l k
        have hP := Put_t bb 20000 (l.take k) _ hM (by omega) (by omega) s (by omega) (by omega)
        rw [adr_take l hs, ← take_next hs] at hP
        refine c_region ?_
        first | (refine AOps.st 37 rfl rfl rfl (op_index rfl te_57 rfl (.seq _ _) rfl rfl (hg) ?_)) | (refine AOps.st 37 rfl rfl rfl (op_index (i := 0) rfl te_57 rfl (.seq _ _) rfl rfl (by first | rfl | assumption) ?_)) | (refine AOps.st 37 rfl rfl rfl (op_index (i := 1) rfl te_57 rfl (.seq _ _) rfl rfl (by first | rfl | assumption) ?_)) | (refine AOps.st 37 rfl rfl rfl (op_index rfl te_57 rfl (.own _ _ _) rfl rfl (hg) ?_)) | (refine AOps.st 37 rfl rfl rfl (op_index (i := 0) rfl te_57 rfl (.own _ _ _) rfl rfl (by first | rfl | assumption) ?_)) | (refine AOps.st 37 rfl rfl rfl (op_index (i := 1) rfl te_57 rfl (.own _ _ _) rfl rfl (by first | rfl | assumption) ?_)) | (refine AOps.st 37 rfl rfl rfl (op_index_arr rfl te_57 rfl rfl rfl (by omega) ?_))
        first | (refine AOps.st 38 rfl rfl rfl (op_load_m1 (i := 0) rfl ta_9 rfl rfl rfl ?_)) | (refine AOps.st 38 rfl rfl rfl (op_load_m1 (i := 1) rfl ta_9 rfl rfl rfl ?_)) | (refine AOps.st 38 rfl rfl rfl (op_load_m1 (i := 2) rfl ta_9 rfl rfl rfl ?_)) | (refine AOps.st 38 rfl rfl rfl (op_load_m1 (i := 3) rfl ta_9 rfl rfl rfl ?_)) | (refine AOps.st 38 rfl rfl rfl (op_load_m1 (i := 4) rfl ta_9 rfl rfl rfl ?_)) | (refine AOps.st 38 rfl rfl rfl (op_load_m1 (i := 5) rfl ta_9 rfl rfl rfl ?_)) | (refine AOps.st 38 rfl rfl rfl (op_load_m1 (i := 6) rfl ta_9 rfl rfl rfl ?_)) | (refine AOps.st 38 rfl rfl rfl (op_load_m1 (i := 7) rfl ta_9 rfl rfl rfl ?_)) | (refine AOps.st 38 rfl rfl rfl (op_load_m1 (i := 8) rfl ta_9 rfl rfl rfl ?_)) | (refine AOps.st 38 rfl rfl rfl (op_load_m1 (i := 9) rfl ta_9 rfl rfl rfl ?_)) | (refine AOps.st 38 rfl rfl rfl (op_load_c1 rfl ta_9 rfl rfl ?_))
        refine AOps.st 7 rfl rfl rfl (op_assign rfl rfl ?_)
        refine AOps.nil ?_
        refine go_code ?_
        refine c_seq ?_
        refine c_region ?_
        refine AOps.st 40 rfl rfl rfl (op_move rfl rfl ?_)
        refine AOps.st 41 rfl rfl rfl (op_move rfl rfl ?_)
        refine AOps.st 42 rfl rfl rfl (op_callat [1,1,1] (xs := [.tmp 40, .tmp 41])  rfl rfl rfl hP (by first | exact Les.refl _ | (repeat' (first | exact Les.refl _ | refine Les.cons ?_ ?_ | exact Le.refl _ | exact Le.own _ _ _ | exact Le.nil _ | refine Le.agg ?_))) ?_)
        rintro v1 M1 ⟨rfl, hM⟩
        obtain ⟨p0, p1, p2, rfl⟩ := hM.three
        refine AOps.st 39 rfl rfl rfl (op_move rfl rfl ?_)
        refine AOps.st 43 rfl rfl rfl (op_extract rfl rfl rfl ?_)
        refine AOps.st 44 rfl rfl rfl (op_extract rfl rfl rfl ?_)
        refine AOps.st 8 rfl rfl rfl (op_assign rfl rfl ?_)
        refine AOps.st 9 rfl rfl rfl (op_assign rfl rfl ?_)
        refine AOps.nil ?_
        refine go_code ?_
        refine c_seq ?_
        refine c_seq ?_
        refine c_region ?_
        refine AOps.st 45 rfl rfl rfl (op_move rfl rfl ?_)
        refine AOps.st 46 rfl rfl rfl (op_notc rfl rfl ?_); intro c46 h46
        try replace h46 := nott h46 h44
        refine AOps.nil ?_
        refine go_code ?_
        rcases bool_split h46 with ⟨rfl, g46⟩ | ⟨rfl, g46⟩
        · refine c_cond_f rfl ?_
          refine c_skip ?_
          refine go_code ?_
          refine ACode.perm (pick_perm (is := [3, 0, 0, 0]) rfl) ?_
          refine c_region ?_
          refine AOps.st 47 rfl rfl rfl (op_move rfl rfl ?_)
          refine AOps.st 48 rfl rfl rfl (op_move rfl rfl ?_)
          refine AOps.st 49 rfl rfl rfl (op_buildSlice (xs := [.tmp 48]) el_34 rfl rfl rfl rfl rfl rfl (Nat.le_of_ble_eq_true rfl) ?_)
          first | (refine AOps.st 50 rfl rfl rfl (op_append (i := 0) el_34 rfl rfl rfl rfl (.seq _ _) (by rw [wsL_len]; simp; omega) ?_)) | (refine AOps.st 50 rfl rfl rfl (op_append (i := 1) el_34 rfl rfl rfl rfl (.seq _ _) (by rw [wsL_len]; simp; omega) ?_)) | (refine AOps.st 50 rfl rfl rfl (op_append (i := 2) el_34 rfl rfl rfl rfl (.seq _ _) (by rw [wsL_len]; simp; omega) ?_)) | (refine AOps.st 50 rfl rfl rfl (op_append (i := 3) el_34 rfl rfl rfl rfl (.seq _ _) (by rw [wsL_len]; simp; omega) ?_)) | (refine AOps.st 50 rfl rfl rfl (op_append (i := 4) el_34 rfl rfl rfl rfl (.seq _ _) (by rw [wsL_len]; simp; omega) ?_)) | (refine AOps.st 50 rfl rfl rfl (op_append (i := 5) el_34 rfl rfl rfl rfl (.seq _ _) (by rw [wsL_len]; simp; omega) ?_)) | (refine AOps.st 50 rfl rfl rfl (op_append (i := 0) el_34 rfl rfl rfl rfl (.own _ _ _) (by rw [wsL_len]; simp; omega) ?_)) | (refine AOps.st 50 rfl rfl rfl (op_append (i := 1) el_34 rfl rfl rfl rfl (.own _ _ _) (by rw [wsL_len]; simp; omega) ?_)) | (refine AOps.st 50 rfl rfl rfl (op_append (i := 2) el_34 rfl rfl rfl rfl (.own _ _ _) (by rw [wsL_len]; simp; omega) ?_)) | (refine AOps.st 50 rfl rfl rfl (op_append (i := 3) el_34 rfl rfl rfl rfl (.own _ _ _) (by rw [wsL_len]; simp; omega) ?_)) | (refine AOps.st 50 rfl rfl rfl (op_append (i := 4) el_34 rfl rfl rfl rfl (.own _ _ _) (by rw [wsL_len]; simp; omega) ?_)) | (refine AOps.st 50 rfl rfl rfl (op_append (i := 5) el_34 rfl rfl rfl rfl (.own _ _ _) (by rw [wsL_len]; simp; omega) ?_)) | (refine AOps.st 50 rfl rfl rfl (op_append (i := 0) el_34 rfl rfl rfl rfl (.nil _) (by rw [wsL_len]; simp; omega) ?_)) | (refine AOps.st 50 rfl rfl rfl (op_append (i := 1) el_34 rfl rfl rfl rfl (.nil _) (by rw [wsL_len]; simp; omega) ?_)) | (refine AOps.st 50 rfl rfl rfl (op_append (i := 2) el_34 rfl rfl rfl rfl (.nil _) (by rw [wsL_len]; simp; omega) ?_)) | (refine AOps.st 50 rfl rfl rfl (op_append (i := 3) el_34 rfl rfl rfl rfl (.nil _) (by rw [wsL_len]; simp; omega) ?_)) | (refine AOps.st 50 rfl rfl rfl (op_append (i := 4) el_34 rfl rfl rfl rfl (.nil _) (by rw [wsL_len]; simp; omega) ?_)) | (refine AOps.st 50 rfl rfl rfl (op_append (i := 5) el_34 rfl rfl rfl rfl (.nil _) (by rw [wsL_len]; simp; omega) ?_)) | (refine AOps.st 50 rfl rfl rfl (op_append_nil el_34 rfl rfl rfl (.seq _ _) (by rw [wsL_len]; simp; omega) ?_)) | (refine AOps.st 50 rfl rfl rfl (op_append_nil el_34 rfl rfl rfl (.own _ _ _) (by rw [wsL_len]; simp; omega) ?_)) | (refine AOps.st 50 rfl rfl rfl (op_append_nil el_34 rfl rfl rfl (.nil _) (by rw [wsL_len]; simp; omega) ?_))
          intro u50
          refine AOps.st 5 rfl rfl rfl (op_assign rfl rfl ?_)
          refine AOps.nil ?_
          refine go_blk ?_
          refine go_code ?_
          refine c_region ?_
          first | (refine AOps.st 51 rfl rfl rfl (op_add rfl rfl rfl (IntWalk.i64_in _ (by omega)) ?_)) | (refine AOps.st 51 rfl rfl rfl (op_add rfl rfl rfl rfl ?_))
          refine AOps.st 35 rfl rfl rfl (op_move rfl rfl ?_)
          refine AOps.nil ?_
          refine go_lp ?_
          exact ⟨(k + 1, u50, p0, p1, p2), ⟨by have := get_lt hs; show k + 1 ≤ _; omega, hM⟩, by have := get_lt hs; show l.length - (k + 1) < l.length - k; omega, SLe.cons rfl (Le.refl _) (SLe.cons rfl (Le.own_eq (by rw [wsL_next]; rfl)) (by repeat' (first | exact SLe.nil _ | refine SLe.cons rfl ?_ ?_ | exact Le.refl _ | exact Le.own _ _ _ | exact Le.nil _))), (by first | exact MLe.none _ | exact MLe.refl _ | (repeat' (first | exact MLe.nil | exact MLe.refl _ | refine MLe.cons _ ?_ | refine MLe.drop _ ?_)))⟩
        · refine c_cond_t rfl ?_
          refine c_seq ?_
          exact absurd g46 (by simp)
    · refine c_cond_t rfl ?_
      refine c_seq ?_
      refine c_region ?_
      refine AOps.st 2 rfl rfl rfl (op_assign rfl rfl ?_)
      refine AOps.nil ?_
      refine go_code ?_
      refine c_ret ?_
      exact out_tmp rfl rfl (Le.refl _) (MLe.none _) rfl
  · refine c_cond_t rfl ?_
    refine c_seq ?_
    exact absurd g25 (by simp)
theorem strsKeep_own : ownKnob Try.prog.godebug = none := by kernel_rfl
theorem strsKeep_laidOut : laidOutB Try.prog = true := by kernel_rfl
set_option maxRecDepth 100000 in
theorem strsKeep_lifted (os : Os) (started : os.Started) (H : Type) (enc : TypeId × Value → H) :
    ReturnsInHanded {} Try.checked os 9 .any (Rows.strsKeepSpec.pre6 enc Try.prog Try.f9 Rows.strsKeepRow.domain false) (Rows.strsKeepSpec.post enc Try.prog Try.f9 false true false false) := by
  refine returnsInHanded_of_change_sized (C := Try.checked) strsKeep_own started (by kernel_rfl) Try.func9
    (ChangeSpec.witness6 (enc := enc) (C := Try.checked) false ⟨#[], #[.slice none 0 0], []⟩ 8 (by kernel_rfl) (by kernel_rfl) (by kernel_rfl) (by kernel_rfl)) ?_
  intro W base args ds gs before hval0 hW hcnd hsz0 _
  have hval : ∀ (j : Nat) t v, Try.f9.params[j]? = some t → args[j]? = some v → Value.okWide Try.prog W .any base t v := hval0
  have hsz : (DataW.weightsEach Try.prog (Try.f9.params.toList ++ Rows.strsKeepSpec.plain.varTypes Try.prog) (ds ++ gs)).all (· ≤ reachBytes) = true := hsz0
  have hW' := hW
  obtain ⟨p, q, hA0, hV, rfl, hfz, hnd⟩ := hW
  have hA : DataW.TrodAll enc Try.prog W 0 (fun _ => true) true Try.f9.params.toList args.toList ds p := hA0
  rw [Try.params9] at hA hval hsz
  obtain ⟨rfl, rfl⟩ := trodVars_none hV
  obtain ⟨v0, d0, rfl, rfl, h0⟩ := trodAll_one hA
  obtain ⟨f0, c0, s0, r0, o0, _⟩ := open_two closedK hsz 0 rfl rfl (by decide) h0
  obtain ⟨l, rfl, hl⟩ := shapeL_sls s0
  refine (law_run (StrsKeep_c l hl) (.cons (rel_cell (okw_slice Try.underlying57 (hval 0 57 v0 rfl rfl)) r0) .nil)).mono fun e W' ⟨he, hb⟩ => ?_
  subst he
  exact ⟨_, rfl, law_post (tb := 4) strsKeep_laidOut (by kernel_rfl) (by kernel_rfl) Try.underlying4 rfl rfl rfl rfl hW' hb⟩
theorem strsKeep_holds : Rows.StrsKeepSaid :=
  OpenClaim.holds_of_wide 9 Try.f9 rfl rfl rfl rfl rfl rfl rfl ⟨rfl, rfl, rfl, rfl, rfl⟩ rfl rfl rfl rfl rfl (by kernel_rfl) Try.func9 (by kernel_rfl)
    (of_decide_eq_true (by kernel_rfl)) (by unfold Func.isWrapper; first | (rw [if_pos (by decide +kernel)]; kernel_rfl) | (rw [if_neg (by decide +kernel)]; exact ⟨rfl, rfl⟩))
    (fun os started H enc _ => strsKeep_lifted os started H enc)
#print axioms strsKeep_holds
end Go.Proofs.Ytecpnlhjjmcllaa
