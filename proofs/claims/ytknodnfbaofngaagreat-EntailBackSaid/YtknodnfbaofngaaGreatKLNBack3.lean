/- Parts of a proof: short words; The frame of a law's row: if the call returns true and nothing below the heap's old size has turned, the row's post holds, whatever the arguments' types.; Arguments as trees: what a reading of an argument says, in the words of the logic; and how a law's call ends.; Arguments as trees, with bounds: no slice and no text is longer than L, and the whole is no greater than the bulk of the reading.; Arguments that are one cell.; More rules: a rune as a text; a part of a text; contracts of the model's own kind; bools that are known.; Types as plain data: a kind, a name, a number, and kids; their size, their sameness, and the count that the statements bound them by.; Types as plain data, on: what a type takes and answers, its parts in order, its variables and metas.; Types as plain data, on: types with others in places that are told.; Facts of the seat's types, one by one, by evaluation.; Arguments of the layers' types, opened: types, texts, substitutions.; Plain arithmetic of 63-bit integers: what the functions of layer 1 compute, over Int, with no program in sight.; Plain arithmetic of words: what the functions of layer 2 compute.; Plain: bytes packed into words, eight a word, the first byte lowest.; Plain: words unpacked into bytes; when packing gives the words back.; the document's lexer as plain functions; texts held against each other, as the kernel can evaluate it; the document's parser: the state and its small steps, as plain functions; Plain: the levels of operators.; Patterns and expressions as plain data: their cells, their parts, their sameness but for places.; Names of patterns, free names of expressions, as plain functions.; How much an expression has, as cognatelaw05.Count counts it.; Declarations as plain data (printed by wip/gend.py).; the document's parser as plain functions; the document's check of declarations, as plain functions; what is above a class: it ends; declarations that are not too many; Bytes as a text.; cognateref05.Texts, SameType, SameTypes; cognatelaw08.ints; The logic of trees, part 18: calls of what Go gives without a body; texts, greater.; the document's lexer: what bytes are; the document's lexer: over; the document's lexer: among, Key, Mark; Utf, bad; the document's lexer: bad; the document's lexer: text; Walks of layer 1: int63.Wrap, Fits, Add, Sub, Mul, Quo, Rem, Cmp and the reference's Mod, Mean, Wrap, Add, Sub, Mul, size, Signed, Quo.; cognateref01.Parse of digits; the document's lexer: one -/
import Derived.Test.YtknodnfbaofngaaGreatKLNBack2
import Derived.ProofKit
import Derived.SizedLaws
import Derived.OpenShut
import Derived.ChangeArms
import Derived.Test.YtknodnfbaofngaaGreatRows
import Derived.Test.YtknodnfbaofngaaGreatProg
import Derived.RowKit
import Derived.Laws.Bits64
import Derived.Laws.BitsAllLaws
import Derived.Laws.BytesArg
import Derived.WideShapes
import Derived.WalkKit
import Derived.Lib.Bytealg
import Derived.WalkSpells
import Derived.WalkLawsBesides
import Derived.Lib.Hide
set_option maxRecDepth 100000
set_option maxHeartbeats 4000000
namespace Go.Proofs.YtknodnfbaofngaaGreat
open Go.RowKit
theorem V {α : Sort _} {a : α} : a = a := rfl
abbrev Ul := @List.drop_of_length_le
abbrev Uk := @List.mem_of_getElem?
abbrev Uj := @IntWalk.i64_in
abbrev Ui := @Drops.nil
abbrev Uh := @Drops.skip
abbrev Ug := @Drops.keep
abbrev Uf := @Nat.le_of_ble_eq_true
abbrev Ue := @Le.own_eq
abbrev Ud := @BoolQ.mk
abbrev Uc := @SLe.cons
abbrev Ub := @Les.cons
abbrev Ua := @Les.refl
abbrev Vz := @Le.refl
abbrev Vy := @MLe.of_eq
abbrev Vx := @MLe.loc
abbrev Vw := @MLe.drop
abbrev Vv := @MLe.cons
abbrev Vu := @MLe.none
abbrev Vt := @MLe.refl
abbrev Vs := @AOps.nil
theorem by0 {p : Prop} (h : p := by repeat' (first | exact Le.refl _ | exact Le.own _ _ _ | exact Le.nil _ | refine Le.agg ?_ | refine Le.tup ?_ | exact Les.refl _ | refine Les.cons ?_ ?_ | refine Le.seq ?_ | exact Less.refl _ | exact Less.nil | refine Less.cons ?_ rfl ?_)) : p := h
theorem by1 {p : Prop} (h : p := by first | exact Les.refl _ | (repeat' (first | exact Les.refl _ | refine Les.cons ?_ ?_ | exact Le.refl _ | exact Le.own _ _ _ | exact Le.nil _ | refine Le.agg ?_))) : p := h
theorem by2 {p : Prop} (h : p := by repeat' (first | exact Le.refl _ | exact Le.own _ _ _ | exact Le.nil _ | refine Le.agg ?_ | refine Le.tup ?_ | exact Les.refl _ | refine Les.cons ?_ ?_)) : p := h
theorem by3 {p : Prop} (h : p := by first | exact MLe.none _ | exact MLe.refl _ | (repeat' (first | exact MLe.nil | exact MLe.refl _ | refine MLe.cons _ ?_ | refine MLe.drop _ ?_))) : p := h
theorem by4 {p : Prop} (h : p := by repeat' (first | exact SLe.nil _ | refine SLe.cons rfl ?_ ?_ | exact Le.refl _ | exact Le.own _ _ _ | exact Le.nil _)) : p := h
theorem by5 {p : Prop} (h : p := by repeat' (first | exact SLe.wo _ _ | exact SLe.refl _ | refine SLe.fresh rfl ?_)) : p := h
theorem by6 {p : Prop} (h : p := by first | (simp; done) | (simp; omega) | omega) : p := h
theorem by7 {p : Prop} (h : p := by first | omega | (simp at *; omega)) : p := h
theorem by8 {p : Prop} (h : p := by show i + 1 ≤ xsu.length; omega) : p := h
theorem by9 {p : Prop} (h : p := by simp [bts, zi, AV.cells]) : p := h
theorem by10 {p : Prop} (h : p := by rw [Bi.cellss_app']; rfl) : p := h
end Go.Proofs.YtknodnfbaofngaaGreat
namespace Go.Proofs.YtknodnfbaofngaaGreat
open Go.ChangeShapes Go.WideShapes Go.ChangeAt Go.RowKit
section
variable {H : Type} {enc : TypeId × Value → H} {P : Program}
theorem trodAll_below (hl : laidOutB P = true) {W W' : World} (hb : Below W.heap.size W W') :
    ∀ {ts : List TypeId} {vs : List Value} {ds : List (DataW H)} {ps : List MemPlace},
     (∀ t ∈ ts, P.readableRec t = true ∧ t < P.types.size) → DataW.TrodAll enc P W 0 (fun _ => true) true ts vs ds ps →
     (∀ x ∈ ps, x.block < W.heap.size) → DataW.TrodAll enc P W' 0 (fun b => decide (b < W.heap.size)) true ts vs ds ps
 | [], _, _, _, _, h, _ => by
  obtain ⟨rfl, rfl, rfl⟩ := trodAll_nil h
  exact trodAll_mk0
 | t :: ts, _, _, _, hr, h, hlt => by
  obtain ⟨v, vs, d, ds, p, q, rfl, rfl, rfl, h0, h1⟩ := trodAll_cons h
  exact trodAll_cons_mk (Below.trod hl (hr t (by simp)).1 (hr t (by simp)).2 h0 hb (fun x hx => hlt x (by simp [hx])))
   (trodAll_below hl hb (fun t ht => hr t (by simp [ht])) h1 (fun x hx => hlt x (by simp [hx])))
theorem law_post {f : Func} {s : ChangeSpec} {W W' : World} {args : Array Value} {ds gs : List (DataW H)} {before : List MemPlace} {tb : TypeId}
    (hl : laidOutB P = true) (hr : (f.params.toList.all fun t => P.readableRec t && decide (t < P.types.size)) = true)
    (hres : f.resultTypes = #[tb]) (htb : P.underlying tb = some .bool) (hvars : s.vars = [])
    (hs1 : (s.fn H (ds ++ gs)).results = [.lit (.bool true)]) (hs2 : (s.fn H (ds ++ gs)).args = ds) (hs3 : (s.fn H (ds ++ gs)).vars = [])
    (hW : DataW.Whole enc P f.params.toList s.vars false W args.toList ds gs before) (hb : Below W.heap.size W W') :
    s.post enc P f false true false false W args (.bool true) W' := by
 have hW' := hW
 obtain ⟨p, q, hA, hV, rfl, hfz, hnd⟩ := hW
 have hr' : ∀ t ∈ f.params.toList, P.readableRec t = true ∧ t < P.types.size := by
  intro t ht
  have := List.all_eq_true.1 hr t ht
  simpa using this
 refine ⟨ds, gs, p ++ q, [], p, [], hW', ?_, ?_, ?_, hb.frame _, fun h => by cases h⟩
 ·rw [hs1, hres]
  exact trodAll_mk1 (shut_bool htb true)
 ·rw [hs2]
  exact trodAll_below hl hb hr' hA (fun x hx => by simpa using hW'.lt x (by simp [hx]))
 rw [hs3, hvars]
 rfl
end
open Go.RowKit
def cellF (w : World) : EH := fun b i => w.cell? ⟨b, i, none⟩
mutual
def ShapeC (P : Program) : Nat → TypeId → List AV → Prop
 | 0, _, _ => False
 | n + 1, t, cs => match P.underlying t with
  | some .bool => ∃ b, cs = [.val (.bool b)]
  | some (.int k) => ∃ x, (k.min ≤ x ∧ x ≤ k.max) ∧ cs = [.val (.int k x)]
  | some .string => ∃ s : ByteArray, s.size ≤ maxLen ∧ cs = [.val (.string s)]
  | some (.slice e) => ∃ es, cs = [.seq (P.cellsOf e) es] ∧ es.length ≤ maxLen ∧ ∀ x ∈ es, ShapeC P n e x
  | some (.struct fs) => ShapeF P n fs.toList cs
  | _ => False
def ShapeF (P : Program) : Nat → List Field → List AV → Prop
 | _, [], cs => cs = []
 | n, f :: fs, cs => ∃ a b, cs = a ++ b ∧ ShapeC P n f.type a ∧ ShapeF P n fs b
end
def fsOk (P : Program) (S : List TypeId) : Nat → List Field → Nat → Bool
 | k, [], n => k == n
 | k, f :: fs, n => f.offset == k && S.contains f.type && fsOk P S (k + P.cellsOf f.type) fs n
def closedT (P : Program) (S : List TypeId) : Bool := S.all fun t => match P.underlying t with
 | some .bool => true
 | some (.int _) => true
 | some .string => true
 | some (.slice e) => S.contains e && Nat.blt 0 (P.cellsOf e)
 | some (.struct fs) => fsOk P S 0 fs.toList (P.cellsOf t)
 | _ => false
section
variable {H : Type} {enc : TypeId × Value → H} {P : Program} {w : World} {sp : Nat → Bool} {held : Bool}
theorem cells_get {a : Addr} {m : Nat} {ws : List Value} (h : w.cells? 0 a m = some ws) : ws.length = m ∧ ∀ j x, ws[j]? = some x → w.cell? (a.add j) = some x := by
 unfold World.cells? at h
 rw [if_pos (Nat.zero_le _)] at h
 have hl : ws.length = m := by simpa using mapM_some_length h
 refine ⟨hl, fun j x hx => ?_⟩
 have hj : j < m := by
  rw [← hl]
  rcases Nat.lt_or_ge j ws.length with k | k
  ·exact k
  rw [List.getElem?_eq_none k] at hx; simp at hx
 have := mapM_some_get h j j (by simp [hj])
 rw [this, hx]
theorem rows_of {fuel : Nat} {e : TypeId} {a : Addr} {m : Nat} {F : EH} : ∀ n : Nat, (∀ i, i < n → ∃ (ws : List Value) (es : List AV), w.cells? 0 (a.add (i * m)) m = some ws ∧ ShapeC P fuel e es ∧ Rels F es ws ∧ Ones ws) →
    ∃ (ess : List (List AV)) (vs : List Value), ess.length = n ∧ (∀ x ∈ ess, ShapeC P fuel e x ∧ x.length = m) ∧ Rels F ess.flatten vs ∧ Ones vs ∧ vs.length = n * m ∧ ∀ j x, vs[j]? = some x → w.cell? (a.add j) = some x
 | 0, _ => ⟨[], [], rfl, by simp, .nil, by intro v hv; simp at hv, by simp, by simp⟩
 | n + 1, h => by
  obtain ⟨ess, vs, h1, h2, h3, h4, h5, h6⟩ := rows_of n (fun i hi => h i (by omega))
  obtain ⟨ws, es, k1, k2, k3, k4⟩ := h n (by omega)
  obtain ⟨q1, q2⟩ := cells_get k1
  refine ⟨ess ++ [es], vs ++ ws, by simp [h1], fun x hx => ?_, by simpa using h3.app k3, fun v hv => ?_, by simp only [List.length_append, h5, q1, Nat.add_mul]; omega, fun j x hx => ?_⟩
  ·rcases List.mem_append.1 hx with r | r
   ·exact h2 x r
   simp at r; subst r; exact ⟨k2, by rw [k3.len, q1]⟩
  ·rcases List.mem_append.1 hv with r | r
   ·exact h4 v r
   exact k4 v r
  rcases Nat.lt_or_ge j vs.length with r | r
  ·rw [List.getElem?_append_left r] at hx; exact h6 j x hx
  rw [List.getElem?_append_right r] at hx
  have := q2 _ x hx
  have e1 : (a.add (n * m)).add (j - vs.length) = a.add j := by
   rw [h5] at r ⊢
   unfold Addr.add
   by_cases z1 : n * m = 0
   ·rw [if_pos z1]
    simp only [z1, Nat.sub_zero]
   rw [if_neg z1]
   have hj0 : j ≠ 0 := by omega
   rw [if_neg hj0]
   by_cases z2 : j - n * m = 0
   ·rw [if_pos z2]
    simp only [Addr.mk.injEq, true_and, and_true]
    omega
   rw [if_neg z2]
   simp only [Addr.mk.injEq, true_and, and_true]
   omega
  rwa [e1] at this
theorem open_shape {S : List TypeId} (hS : closedT P S = true) : ∀ (fuel : Nat) (t : TypeId) (vs : List Value) (x : DataW H × List MemPlace), t ∈ S → DataW.trod enc P w 0 sp held fuel t vs = some x →
    ∃ cs, ShapeC P fuel t cs ∧ Rels (cellF w) cs vs ∧ Ones vs := by
 intro fuel
 induction fuel with
 | zero => intro t vs x _ h; simp [DataW.trod] at h
 | succ n ih =>
  intro t vs x ht h
  have hc := List.all_eq_true.1 hS t ht
  have hh := h
  unfold DataW.trod at h
  unfold ShapeC
  cases hu : P.underlying t with
  | none => rw [hu] at hc; simp at hc
  | some d =>
   rw [hu] at hc h
   cases d with
   | bool =>
    simp only at h
    split at h <;> first | (simp at h; done) | skip
    all_goals first | (rename_i b _; exact ⟨[.val (.bool b)], ⟨b, rfl⟩, .cons (.val _) .nil, by intro v hv; simp at hv; subst hv; rfl⟩) | (simp_all; done)
   | int k =>
    simp only at h
    split at h <;> simp_all
    rename_i k' z _
    obtain ⟨⟨rfl, hwf⟩, _⟩ := h
    simp only [Lit.wf, Bool.and_eq_true, decide_eq_true_eq] at hwf
    exact ⟨_, ⟨z, hwf, rfl⟩, .cons (.val _) .nil, by intro v hv; simp at hv; subst hv; rfl⟩
   | string =>
    simp only at h
    split at h <;> simp_all
    exact ⟨_, ⟨_, h.1, rfl⟩, .cons (.val _) .nil, by intro v hv; simp at hv; subst hv; rfl⟩
   | slice e =>
    simp only [Bool.and_eq_true, List.contains_iff_mem, Nat.blt_eq] at hc
    rcases DataW.trod_slice hu hh with ⟨rfl, _⟩ | ⟨a, len, cap, elems, rest, n', hn, rfl, _, _, hlc, hcm, hel, hat, _⟩
    ·exact ⟨[.seq (P.cellsOf e) []], ⟨[], rfl, by simp, by simp⟩, .cons (.seq0 _ none 0 (fun _ => rfl)) .nil, by intro v hv; simp at hv; subst hv; rfl⟩
    obtain rfl : n = n' := by omega
    have hrows : ∀ i, i < len → ∃ ws es, w.cells? 0 (a.add (i * P.cellsOf e)) (P.cellsOf e) = some ws ∧ ShapeC P n e es ∧ Rels (cellF w) es ws ∧ Ones ws := by
     intro i hi
     have h1 := hat i hi
     rw [List.getElem?_eq_getElem (by omega)] at h1
     obtain ⟨ws, h2, h3⟩ := Option.bind_eq_some_iff.1 h1
     obtain ⟨es, h4, h5, h6⟩ := ih e ws _ hc.1 h3
     exact ⟨ws, es, h2, h4, h5, h6⟩
    obtain ⟨ess, vs', r1, r2, r3, r4, r5, r6⟩ := rows_of len hrows
    refine ⟨[.seq (P.cellsOf e) ess], ⟨ess, rfl, by omega, fun x hx => (r2 x hx).1⟩, .cons ?_ .nil, by intro v hv; simp at hv; subst hv; rfl⟩
    by_cases h0 : len = 0
    ·subst h0
     have : ess = [] := List.eq_nil_of_length_eq_zero r1
     subst this
     exact .seq0 _ _ _ (by simp)
    have hpos : 0 < vs'.length := by rw [r5]; exact Nat.mul_pos (by omega) hc.2
    have hsp : a.spot = none := by
     have := r6 0 vs'[0] (List.getElem?_eq_getElem hpos)
     have e0 : a.add 0 = a := by simp [Addr.add]
     rw [e0] at this
     unfold World.cell? at this
     cases hs : a.spot with
     | none => rfl
     | some q => rw [hs] at this; simp at this; split at this <;> simp at this
    obtain ⟨b, off, spot⟩ := a
    simp only at hsp
    subst hsp
    subst r1
    refine .seq b off cap (fun x hx => (r2 x hx).2) (by omega) (fun j x hx => ?_) r3 r4 (by omega)
    have := r6 j x hx
    rwa [addr_add0] at this
   | struct fs =>
    simp only at hc
    obtain ⟨xs, n', hn, _, hlen, hxl, hat⟩ := DataW.trod_struct hu hh
    obtain rfl : n = n' := by omega
    have hmem : ∀ f ∈ fs.toList, ∃ y, DataW.trod enc P w 0 sp held n f.type ((vs.drop f.offset).take (P.cellsOf f.type)) = some y := by
     intro f hf
     obtain ⟨i, hi, hie⟩ := List.mem_iff_getElem.1 hf
     have h1 := hat i f (by rw [← hie]; simp at hi ⊢)
     rw [h1]
     simp at hi
     exact ⟨xs[i]'(by omega), List.getElem?_eq_getElem (by omega)⟩
    have key : ∀ (l : List Field) (k : Nat), (∀ f ∈ l, ∃ y, DataW.trod enc P w 0 sp held n f.type ((vs.drop f.offset).take (P.cellsOf f.type)) = some y) → fsOk P S k l (P.cellsOf t) = true →
        ∃ cs, ShapeF P n l cs ∧ Rels (cellF w) cs (vs.drop k) ∧ Ones (vs.drop k) := by
     intro l
     induction l with
     | nil =>
      intro k _ hk
      simp only [fsOk, beq_iff_eq] at hk
      refine ⟨[], by simp [ShapeF], ?_, ?_⟩
      ·rw [List.drop_eq_nil_of_le (by omega)]; exact .nil
      rw [List.drop_eq_nil_of_le (by omega)]; intro v hv; simp at hv
     | cons f l ihl =>
      intro k hf hk
      simp only [fsOk, Bool.and_eq_true, beq_iff_eq, List.contains_iff_mem] at hk
      obtain ⟨⟨rfl, hS1⟩, hk⟩ := hk
      obtain ⟨y, hy⟩ := hf f (by simp)
      obtain ⟨c1, h1, h2, h3⟩ := ih f.type _ y hS1 hy
      obtain ⟨c2, h4, h5, h6⟩ := ihl (f.offset + P.cellsOf f.type) (fun g hg => hf g (by simp [hg])) hk
      have e1 : vs.drop f.offset = (vs.drop f.offset).take (P.cellsOf f.type) ++ vs.drop (f.offset + P.cellsOf f.type) := by
       rw [← List.drop_drop, List.take_append_drop]
      refine ⟨c1 ++ c2, by rw [ShapeF]; exact ⟨c1, c2, V, h1, h4⟩, by rw [e1]; exact h2.app h5, ?_⟩
      rw [e1]
      intro v hv
      rcases List.mem_append.1 hv with q | q
      ·exact h3 v q
      exact h6 v q
    obtain ⟨cs, k1, k2, k3⟩ := key fs.toList 0 hmem hc
    rw [List.drop_zero] at k2 k3
    exact ⟨cs, k1, k2, k3⟩
   | _ => simp at hc
theorem Inv.start (w : World) : Inv w.heap.size (cellF w) [] w := ⟨Nat.le_refl _, fun _ _ _ h => h, by simp, List.Pairwise.nil⟩
theorem law_run {f : FuncId} {vs : List AV} {us : List Value} (h : ACall P f vs [] (fun v _ => v = .val (.bool true))) (hr : Rels (cellF w) vs us) : Calls P f us.toArray w fun e w' => e = .returned (.bool true) ∧ Below w.heap.size w w' := by
 refine (h.run w.heap.size (cellF w) [] w us (by simpa using Inv.start w) hr).mono ?_
 rintro e w' ⟨u, v, M', F', rfl, rfl, h3, _, _, h6⟩
 cases h3
 exact ⟨V, h6⟩
theorem open_one {S : List TypeId} (hS : closedT P S = true) {t : TypeId} {v : Value} {d : DataW H} {ps : List MemPlace} (ht : t ∈ S) (h : DataW.Trod enc P w 0 sp held t v d ps) : ∃ fuel cs, ShapeC P fuel t cs ∧ Rels (cellF w) cs v.cells.toList ∧ Ones v.cells.toList := by
 obtain ⟨fuel, h⟩ := h
 obtain ⟨cs, h1, h2, h3⟩ := open_shape hS fuel t _ _ ht h
 exact ⟨fuel, cs, h1, h2, h3⟩
theorem rel_agg {F : EH} {v : Value} {cs : List AV} (hv : ∃ a, v = .agg a) (h : Rels F cs v.cells.toList) (h1 : Ones v.cells.toList) : Rel F (.agg cs) v := by
 obtain ⟨a, rfl⟩ := hv
 have := Rel.agg h h1
 simpa [Value.cells] using this
theorem rel_cell {F : EH} {v : Value} {c : AV} (hv : ∀ a, v ≠ .agg a) (h : Rels F [c] v.cells.toList) : Rel F c v := by
 have e : v.cells.toList = [v] := by cases v <;> first | rfl | exact absurd rfl (hv _)
 rw [e] at h
 cases h with
 | cons h _ => exact h
end
mutual
def AV.bulk : AV → Nat
 | .val (.string s) => s.size + 1
 | .seq _ es => bulkss es + 1
 | _ => 1
def bulks : List AV → Nat
 | [] => 0
 | a :: l => a.bulk + bulks l
def bulkss : List (List AV) → Nat
 | [] => 0
 | e :: es => bulks e + bulkss es
end
section
variable {H : Type} {enc : TypeId × Value → H} {P : Program} {w : World} {sp : Nat → Bool} {held : Bool} {L : Nat}
end
section
variable {P : Program} {L : Nat}
end
theorem okw_str {P : Program} {W : World} {r : Reach} {b : Nat} {t : TypeId} {v : Value} (ht : P.underlying t = some .string) (h : Value.okWide P W r b t v) : ∀ a, v ≠ .agg a := by
 rintro a rfl
 unfold Value.okWide at h
 rw [ht] at h
 simp only [Cell.okWide, Cell.ok, ht] at h
section
variable {P : Program} {n : Nat} {al : Sl} {M : Mem} {o : Oper} {K : AV → Mem → Prop}
theorem op_substr {x lo hi : Operand} {t : TypeId} {s : ByteArray} {k k' : IntKind} {a b : Int} {i j : Nat} (ho : o.op = .slice t x (some lo) (some hi) none) (ht : P.underlying t = some .string) (hx : al.ev x = some (.val (.string s))) (hlo : al.ev lo = some (.val (.int k a))) (hhi : al.ev hi = some (.val (.int k' b))) (ha : a = i) (hb : b = j) (hij : i ≤ j) (hj : j ≤ s.size) (q : K (.val (.string (s.extract i j))) M) : OpT P o al M K :=
 OpT.plain fun n B F Mf ac w hi' hs => by
  refine ⟨_, _, ?_, q, .val _⟩
  subst ha hb
  have h1 : (0 : Int) ≤ (j : Int) ∧ (j : Int) ≤ (s.size : Int) := ⟨by omega, by omega⟩
  have h2 : (0 : Int) ≤ (i : Int) ∧ (i : Int) ≤ (j : Int) := ⟨by omega, by omega⟩
  simp [execOp, ho, Xy hs hx, Xy hs hlo, Xy hs hhi, Instr.sliceAt, underlying, ht, Instr.slice, Instr.sliceBounds, Instr.sliceBound, asIntOf, hj, hij]
theorem BCall.yes {f : FuncId} {vs : List AV} {p : Prop} (h : BCall P f vs p) (hp : p) : PCall P f vs (.val (.bool true)) :=
 h.mono (by rintro v M' ⟨⟨c, hc, rfl⟩, rfl⟩; exact ⟨by rw [hc.2 hp], rfl⟩)
theorem BCall.no {f : FuncId} {vs : List AV} {p : Prop} (h : BCall P f vs p) (hp : ¬ p) : PCall P f vs (.val (.bool false)) :=
 h.mono (by rintro v M' ⟨⟨c, hc, rfl⟩, rfl⟩; exact ⟨by cases c <;> simp_all, rfl⟩)
theorem Inv.kept {B : Nat} {F : EH} {M : Mem} {w w' : World} (hi : Inv B F M w) (hb : Below w.heap.size w w') : Inv B F M w' := by
 refine ⟨Nat.le_trans hi.base hb.size, fun b i x h => ?_, fun r hr => ?_, hi.far⟩
 ·have h1 := hi.fix b i x h
  rw [hb.cell (p := ⟨b, i, none⟩) (cell_size h1)]; exact h1
 exact (hi.ok r hr).stay (Ext.refl F) (fun b hbk => ⟨hb.block b ((hi.ok r hr).lt hbk), fun _ => V⟩)
theorem PCall.of_calls {f : FuncId} {vs : List Value} {r : Value} (he : Enters P f) (h : ∀ w, Calls P f vs.toArray w fun e w' => e = .returned r ∧ Below w.heap.size w w') : PCall P f (vs.map AV.val) (.val r) := by
 refine ⟨he, fun B F Mf w us hi hr => ?_⟩
 have e : us = vs := by
  have key : ∀ (vs us : List Value), Rels F (vs.map AV.val) us → us = vs := by
   intro vs
   induction vs with
   | nil => intro us h; cases h; rfl
   | cons v vs ih =>
    intro us h
    cases h with
    | cons h hs => cases h; rw [ih _ hs]
  exact key vs us hr
 subst e
 refine (h w).mono ?_
 rintro e w' ⟨rfl, hb⟩
 exact ⟨r, .val r, [], F, V, ⟨V, V⟩, .val r, Ext.refl F, hi.kept hb, hb.mono hi.base⟩
end
instance : DecidableEq ByteArray := fun a b => if h : a.toList = b.toList then isTrue (ba_eq h) else isFalse (fun e => h (by rw [e]))
inductive Ty where
 | mk (k : Int) (s : ByteArray) (n : Int) (ks : List Ty)
def Ty.kind : Ty → Int | .mk k _ _ _ => k
def Ty.name : Ty → ByteArray | .mk _ s _ _ => s
def Ty.num : Ty → Int | .mk _ _ n _ => n
def Ty.kids : Ty → List Ty | .mk _ _ _ ks => ks
mutual
def Ty.size : Ty → Nat
 | .mk _ _ _ ks => 1 + Ty.sizes ks
def Ty.sizes : List Ty → Nat
 | [] => 0
 | t :: ts => t.size + Ty.sizes ts
end
theorem Ty.size_pos (t : Ty) : 1 ≤ t.size := by cases t; simp [Ty.size]
theorem Ty.size_mem {t : Ty} : ∀ {ts : List Ty}, t ∈ ts → t.size ≤ Ty.sizes ts
 | [], h => by simp at h
 | u :: ts, h => by
  rw [Ty.sizes]
  rcases List.mem_cons.1 h with rfl | h
  ·omega
  have := Ty.size_mem h; omega
theorem Ty.size_kid {t u : Ty} (h : u ∈ t.kids) : u.size < t.size := by
 obtain ⟨k, s, n, ks⟩ := t
 have := Ty.size_mem (show u ∈ ks from h)
 rw [Ty.size]; omega
mutual
def Ty.cells : Ty → List AV
 | .mk k s n ks => [.val (.int .i64 k), .val (.string s), .val (.int .i64 n), .seq 4 (Ty.cellss ks)]
def Ty.cellss : List Ty → List (List AV)
 | [] => []
 | t :: ts => t.cells :: Ty.cellss ts
end
theorem Ty.cellss_map : ∀ ts : List Ty, Ty.cellss ts = ts.map Ty.cells
 | [] => by simp [Ty.cellss]
 | t :: ts => by simp [Ty.cellss, Ty.cellss_map ts]
theorem Ty.cellss_len (ts : List Ty) : (Ty.cellss ts).length = ts.length := by rw [Ty.cellss_map]; simp
theorem Ty.cellss_get {ts : List Ty} {i : Nat} {t : Ty} (h : ts[i]? = some t) : (Ty.cellss ts)[i]? = some t.cells := by rw [Ty.cellss_map]; simp [h]
theorem Ty.cellss_app (a b : List Ty) : Ty.cellss (a ++ b) = Ty.cellss a ++ Ty.cellss b := by simp [Ty.cellss_map]
theorem Ty.size_at {ts : List Ty} {i : Nat} {t : Ty} (h : ts[i]? = some t) : t.size ≤ Ty.sizes ts := Ty.size_mem (Uk h)
theorem Yw {α : Type} {l : List α} {i : Nat} (h : i < l.length) : ∃ x, l[i]? = some x := ⟨l[i], List.getElem?_eq_getElem h⟩
theorem Xp {α : Type} {l : List α} {i : Nat} {x : α} (h : l[i]? = some x) : l.drop i = x :: l.drop (i + 1) := by
 have hi : i < l.length := by
  rcases Nat.lt_or_ge i l.length with k | k
  ·exact k
  rw [List.getElem?_eq_none k] at h; simp at h
 rw [List.drop_eq_getElem_cons hi]
 rw [List.getElem?_eq_getElem hi] at h
 simp at h
 rw [h]
mutual
def Ty.cnt : Ty → Int → Int
 | .mk k _ n ks, most => if k = 1 ∧ (ks ≠ [] ∨ n ≠ 0) then most else Ty.cnts ks 1 most
def Ty.cnts : List Ty → Int → Int → Int
 | [], n, _ => n
 | t :: ts, n, most => if n < most then Ty.cnts ts (n + t.cnt (most - n)) most else n
end
mutual
theorem Ty.cnt_bd : ∀ (t : Ty) (m : Int), 1 ≤ m → 1 ≤ t.cnt m ∧ t.cnt m ≤ m
 | .mk k s n ks, m, h => by
  rw [Ty.cnt]
  split
  ·omega
  exact Ty.cnts_bd ks 1 m (by omega) h
theorem Ty.cnts_bd : ∀ (ts : List Ty) (n m : Int), 1 ≤ n → n ≤ m → 1 ≤ Ty.cnts ts n m ∧ Ty.cnts ts n m ≤ m
 | [], n, m, h, h' => by rw [Ty.cnts]; omega
 | t :: ts, n, m, h, h' => by
  rw [Ty.cnts]
  split
  ·have := Ty.cnt_bd t (m - n) (by omega)
   exact Ty.cnts_bd ts _ m (by omega) (by omega)
  omega
end
inductive Ty.VarOk : Ty → Prop
 | mk (k : Int) (s : ByteArray) (n : Int) (ks : List Ty) (h : k = 1 → ks = [] ∧ n = 0) (hk : ∀ t ∈ ks, Ty.VarOk t) : Ty.VarOk (.mk k s n ks)
mutual
theorem Ty.cnt_size : ∀ (t : Ty) (m : Int), 1 ≤ m → t.cnt m < m → (t.size : Int) = t.cnt m ∧ t.VarOk
 | .mk k s n ks, m, h, hlt => by
  rw [Ty.cnt] at hlt ⊢
  split at hlt
  ·omega
  rename_i hc
  rw [if_neg hc]
  obtain ⟨h1, h2⟩ := Ty.cnts_size ks 1 m (by omega) h hlt
  refine ⟨by rw [Ty.size]; omega, .mk k s n ks (fun hk => ?_) h2⟩
  constructor
  ·cases ks with
   | nil => rfl
   | cons t ts => exact absurd ⟨hk, Or.inl (by simp)⟩ hc
  by_cases hn : n = 0
  ·exact hn
  exact absurd ⟨hk, Or.inr hn⟩ hc
theorem Ty.cnts_size : ∀ (ts : List Ty) (n m : Int), 1 ≤ n → n ≤ m → Ty.cnts ts n m < m → n + (Ty.sizes ts : Int) = Ty.cnts ts n m ∧ ∀ t ∈ ts, t.VarOk
 | [], n, m, h, h', hlt => by rw [Ty.cnts, Ty.sizes]; exact ⟨by simp, by simp⟩
 | t :: ts, n, m, h, h', hlt => by
  rw [Ty.cnts] at hlt ⊢
  split at hlt
  ·rename_i hc
   rw [if_pos hc]
   have hb := Ty.cnt_bd t (m - n) (by omega)
   obtain ⟨i1, i2⟩ := Ty.cnts_size ts (n + t.cnt (m - n)) m (by omega) (by omega) hlt
   have hlt2 : t.cnt (m - n) < m - n := by
    have := Ty.cnts_ge ts (n + t.cnt (m - n)) m (by omega) (by omega)
    omega
   obtain ⟨j1, j2⟩ := Ty.cnt_size t (m - n) (by omega) hlt2
   refine ⟨by rw [Ty.sizes]; omega, fun u hu => ?_⟩
   rcases List.mem_cons.1 hu with rfl | hu
   ·exact j2
   exact i2 u hu
  omega
theorem Ty.cnts_ge : ∀ (ts : List Ty) (n m : Int), 1 ≤ n → n ≤ m → n ≤ Ty.cnts ts n m
 | [], n, m, h, h' => by rw [Ty.cnts]; omega
 | t :: ts, n, m, h, h' => by
  rw [Ty.cnts]
  split
  ·have hb := Ty.cnt_bd t (m - n) (by omega)
   have := Ty.cnts_ge ts (n + t.cnt (m - n)) m (by omega) (by omega)
   omega
  omega
end
def Ty.small (t : Ty) (most : Int) : Bool := decide (t.cnt (most + 1) ≤ most)
theorem Ty.small_size {t : Ty} {most : Int} (h0 : 0 ≤ most) (h : t.small most = true) : (t.size : Int) ≤ most ∧ t.VarOk := by
 unfold Ty.small at h
 simp at h
 obtain ⟨h1, h2⟩ := Ty.cnt_size t (most + 1) (by omega) (by omega)
 exact ⟨by omega, h2⟩
theorem Ty.cnt_var {t : Ty} (h : t.kind = 1 ∧ (t.kids ≠ [] ∨ t.num ≠ 0)) (m : Int) : t.cnt m = m := by
 cases t; rw [Ty.cnt]; exact if_pos h
theorem Ty.cnt_not {t : Ty} (h : ¬ (t.kind = 1 ∧ (t.kids ≠ [] ∨ t.num ≠ 0))) (m : Int) : t.cnt m = Ty.cnts t.kids 1 m := by
 cases t; rw [Ty.cnt]; exact if_neg h
def strs (xs : List ByteArray) : List (List AV) := xs.map fun s => [.val (.string s)]
theorem Xt (xs : List ByteArray) : (strs xs).length = xs.length := by simp [strs]
theorem strs_get {xs : List ByteArray} {i : Nat} {s : ByteArray} (h : xs[i]? = some s) : (strs xs)[i]? = some [.val (.string s)] := by simp [strs, h]
theorem strs_app (a b : List ByteArray) : strs (a ++ b) = strs a ++ strs b := by simp [strs]
def Upto {α : Type} (xs ys : List α) (i : Nat) : Prop := ∀ j, j < i → xs[j]? = ys[j]?
theorem Upto.zero {α : Type} (xs ys : List α) : Upto xs ys 0 := fun j hj => by omega
theorem Upto.succ {α : Type} {xs ys : List α} {i : Nat} {x y : α} (h : Upto xs ys i) (hx : xs[i]? = some x) (hy : ys[i]? = some y) (e : x = y) : Upto xs ys (i + 1) := fun j hj => by
 by_cases q : j = i
 ·subst q; rw [hx, hy, e]
 exact h j (by omega)
theorem Upto.eq {α : Type} {xs ys : List α} {i : Nat} (h : Upto xs ys i) (hl : xs.length = ys.length) (hi : xs.length ≤ i) : xs = ys := by
 apply List.ext_getElem?
 intro j
 rcases Nat.lt_or_ge j xs.length with k | k
 ·exact h j (by omega)
 rw [List.getElem?_eq_none k, List.getElem?_eq_none (by omega)]
end Go.Proofs.YtknodnfbaofngaaGreat
namespace Go.Proofs.YtknodnfbaofngaaGreat
abbrev arrow : ByteArray := ⟨#[45, 62]⟩
def Ty.args : Ty → List Ty
 | .mk k s _ [a, b] => if k = 3 ∧ s = arrow then a :: b.args else []
 | _ => []
termination_by t => t.size
decreasing_by simp [Ty.size, Ty.sizes]; omega
mutual
def Ty.all : Ty → List Ty
 | .mk k s n ks => .mk k s n ks :: Ty.alls ks
def Ty.alls : List Ty → List Ty
 | [] => []
 | t :: ts => t.all ++ Ty.alls ts
end
theorem Ty.alls_app : ∀ a b : List Ty, Ty.alls (a ++ b) = Ty.alls a ++ Ty.alls b
 | [], b => by simp [Ty.alls]
 | t :: ts, b => by simp [Ty.alls, Ty.alls_app ts b]
mutual
theorem Ty.all_len : ∀ t : Ty, t.all.length = t.size
 | .mk k s n ks => by rw [Ty.all, Ty.size, List.length_cons, Ty.alls_len ks]; omega
theorem Ty.alls_len : ∀ ts : List Ty, (Ty.alls ts).length = Ty.sizes ts
 | [] => by simp [Ty.alls, Ty.sizes]
 | t :: ts => by rw [Ty.alls, Ty.sizes, List.length_append, Ty.all_len t, Ty.alls_len ts]
end
theorem Ty.alls_take (ks : List Ty) {i : Nat} {x : Ty} (h : ks[i]? = some x) : Ty.alls (ks.take (i + 1)) = Ty.alls (ks.take i) ++ x.all := by
 have hi : i < ks.length := by
  rcases Nat.lt_or_ge i ks.length with k | k
  ·exact k
  rw [List.getElem?_eq_none k] at h; simp at h
 rw [List.getElem?_eq_getElem hi] at h
 simp at h
 rw [List.take_succ_eq_append_getElem hi, Ty.alls_app, h]
 simp [Ty.alls]
theorem Ty.sizes_app : ∀ a b : List Ty, Ty.sizes (a ++ b) = Ty.sizes a + Ty.sizes b
 | [], b => by simp [Ty.sizes]
 | t :: ts, b => by simp [Ty.sizes, Ty.sizes_app ts b]; omega
theorem Ty.sizes_take (ks : List Ty) (i : Nat) : Ty.sizes (ks.take i) ≤ Ty.sizes ks := by
 have := Ty.sizes_app (ks.take i) (ks.drop i)
 rw [List.take_append_drop] at this
 omega
theorem Wl {α : Type} {l : List α} {i : Nat} {x : α} (h : l[i]? = some x) : l.take (i + 1) = l.take i ++ [x] := by
 have hi : i < l.length := by
  rcases Nat.lt_or_ge i l.length with k | k
  ·exact k
  rw [List.getElem?_eq_none k] at h; simp at h
 rw [List.getElem?_eq_getElem hi] at h
 simp at h
 rw [List.take_succ_eq_append_getElem hi, h]
theorem Ty.len_sizes (ks : List Ty) : ks.length ≤ Ty.sizes ks := by
 induction ks with
 | nil => simp
 | cons t ts ih => have := Ty.size_pos t; simp [Ty.sizes]; omega
noncomputable instance (a : ByteArray) (l : List ByteArray) : Decidable (a ∈ l) := Classical.propDecidable _
noncomputable def addVar (acc : List ByteArray) (t : Ty) : List ByteArray := if t.kind = 1 ∧ t.name ∉ acc then acc ++ [t.name] else acc
def addMeta (acc : List Int) (t : Ty) : List Int := if t.kind = 2 ∧ t.num ∉ acc then acc ++ [t.num] else acc
noncomputable def Ty.vars (t : Ty) : List ByteArray := t.all.foldl addVar []
def Ty.metas (t : Ty) : List Int := t.all.foldl addMeta []
theorem addVar_yes {acc : List ByteArray} {k : Int} {s : ByteArray} {n : Int} {ks : List Ty} (h : k = 1 ∧ s ∉ acc) : addVar acc (.mk k s n ks) = acc ++ [s] := if_pos h
theorem addVar_no {acc : List ByteArray} {k : Int} {s : ByteArray} {n : Int} {ks : List Ty} (h : ¬ (k = 1 ∧ s ∉ acc)) : addVar acc (.mk k s n ks) = acc := if_neg h
theorem strs_snoc (acc : List ByteArray) (s : ByteArray) : strs acc ++ [[.val (.string s)]] = strs (acc ++ [s]) := by simp [strs]
theorem addVar_len (acc : List ByteArray) (t : Ty) : (addVar acc t).length ≤ acc.length + 1 := by unfold addVar; split <;> simp
theorem foldVar_len : ∀ (l : List Ty) (acc : List ByteArray), (l.foldl addVar acc).length ≤ acc.length + l.length
 | [], acc => by simp
 | t :: l, acc => by
  have h1 := foldVar_len l (addVar acc t)
  have h2 := addVar_len acc t
  simp only [List.foldl_cons, List.length_cons]
  omega
mutual
def Ty.turn (o : Ty → Option Ty) : Ty → Ty
 | .mk k s n ks => match o (.mk k s n ks) with
  | some y => y
  | none => .mk k s n (Ty.turns o ks)
def Ty.turns (o : Ty → Option Ty) : List Ty → List Ty
 | [] => []
 | t :: ts => t.turn o :: Ty.turns o ts
end
theorem Ty.turns_map (o : Ty → Option Ty) : ∀ ts : List Ty, Ty.turns o ts = ts.map (Ty.turn o)
 | [] => by simp [Ty.turns]
 | t :: ts => by simp [Ty.turns, Ty.turns_map o ts]
theorem Ty.turn_some {o : Ty → Option Ty} {t y : Ty} (h : o t = some y) : t.turn o = y := by
 obtain ⟨k, s, n, ks⟩ := t
 rw [Ty.turn, h]
theorem Ty.turn_none {o : Ty → Option Ty} {k : Int} {s : ByteArray} {n : Int} {ks : List Ty} (h : o (.mk k s n ks) = none) : (Ty.mk k s n ks).turn o = .mk k s n (Ty.turns o ks) := by
 rw [Ty.turn, h]
theorem Ty.turns_len (o : Ty → Option Ty) (ts : List Ty) : (Ty.turns o ts).length = ts.length := by rw [Ty.turns_map]; simp
theorem Ty.turns_snoc (o : Ty → Option Ty) (ts : List Ty) (x : Ty) : Ty.turns o (ts ++ [x]) = Ty.turns o ts ++ [x.turn o] := by simp [Ty.turns_map]
mutual
theorem Ty.turn_id : ∀ t : Ty, t.turn (fun _ => none) = t
 | .mk k s n ks => by rw [Ty.turn_none rfl, Ty.turns_id ks]
theorem Ty.turns_id : ∀ ts : List Ty, Ty.turns (fun _ => none) ts = ts
 | [] => by rw [Ty.turns]
 | t :: ts => by rw [Ty.turns, Ty.turn_id t, Ty.turns_id ts]
end
def firstAt {α : Type} [DecidableEq α] (x : α) : List α → Nat → Int
 | [], _ => -1
 | y :: ys, i => if x = y then i else firstAt x ys (i + 1)
theorem firstAt_drop {α : Type} [DecidableEq α] (x : α) : ∀ (xs : List α) (i : Nat), x ∉ xs.take i → firstAt x (xs.drop i) i = firstAt x xs 0 := by
 have key : ∀ (xs : List α) (i k : Nat), x ∉ xs.take i → firstAt x xs k = firstAt x (xs.drop i) (k + i) := by
  intro xs
  induction xs with
  | nil => intro i k _; simp [firstAt]
  | cons y ys ih =>
   intro i k h
   cases i with
   | zero => simp
   | succ i =>
    simp only [List.take_succ_cons, List.mem_cons, not_or] at h
    rw [firstAt, if_neg h.1, List.drop_succ_cons, ih i (k + 1) h.2]
    congr 1; omega
 intro xs i h
 have := key xs i 0 h
 rw [this]; congr 1; omega
theorem firstAt_nonneg {α : Type} [DecidableEq α] (x : α) : ∀ (xs : List α) (k : Nat), 0 ≤ firstAt x xs k ↔ x ∈ xs
 | [], k => by simp [firstAt]
 | y :: ys, k => by
  rw [firstAt]
  by_cases e : x = y
  ·simp [e]
  rw [if_neg e, firstAt_nonneg x ys (k + 1)]; simp [e]
theorem firstAt_lt {α : Type} [DecidableEq α] (x : α) : ∀ (xs : List α) (k : Nat), firstAt x xs k < k + xs.length
 | [], k => by simp [firstAt]; omega
 | y :: ys, k => by
  rw [firstAt]
  split
  ·simp; omega
  have := firstAt_lt x ys (k + 1); simp at this ⊢; omega
theorem not_mem_take {α : Type} {xs : List α} {i : Nat} {x y : α} (h : x ∉ xs.take i) (hx : xs[i]? = some y) (e : ¬ y = x) : x ∉ xs.take (i + 1) := by
 rw [Wl hx, List.mem_append]
 rintro (q | q)
 ·exact h q
 simp at q; exact e q.symm
def putO (names : List ByteArray) (ts : List Ty) (x : Ty) : Option Ty := if x.kind = 1 ∧ 0 ≤ firstAt x.name names 0 then ts[(firstAt x.name names 0).toNat]? else none
theorem putO_not {names : List ByteArray} {ts : List Ty} {k : Int} {s : ByteArray} {n : Int} {ks : List Ty} (h : k ≠ 1) : putO names ts (.mk k s n ks) = none := if_neg (fun q => h q.1)
theorem putO_out {names : List ByteArray} {ts : List Ty} {k : Int} {s : ByteArray} {n : Int} {ks : List Ty} (h : firstAt s names 0 < 0) : putO names ts (.mk k s n ks) = none := if_neg (fun q => by have := q.2; simp only [Ty.name] at this; omega)
theorem putO_big {names : List ByteArray} {ts : List Ty} {k : Int} {s : ByteArray} {n : Int} {ks : List Ty} (h : (ts.length : Int) ≤ firstAt s names 0) : putO names ts (.mk k s n ks) = none := by
 unfold putO
 split
 ·exact List.getElem?_eq_none (by simp only [Ty.name]; omega)
 rfl
theorem putO_in {names : List ByteArray} {ts : List Ty} {s : ByteArray} {n : Int} {ks : List Ty} {j : Nat} (h : firstAt s names 0 = j) : putO names ts (.mk 1 s n ks) = ts[j]? := by
 unfold putO
 simp only [Ty.kind, Ty.name, h]
 rw [if_pos ⟨trivial, by omega⟩]
 simp
theorem Wo : Tryz.prog.follows .mixedOrders = true := by kernel_rfl
theorem ta_2 : tyAgg Tryz.prog 2 = some none := by kernel_rfl
theorem ts_2 : (Tryz.prog.info? 2).map (·.size) = some 1 := by kernel_rfl
theorem Xa : tyAgg Tryz.prog 3 = some none := by kernel_rfl
theorem Wh : (Tryz.prog.info? 3).map (·.size) = some 1 := by kernel_rfl
theorem tz_3 : tyZero Tryz.prog 3 = some (.int .i64 0) := by kernel_rfl
theorem tu_3 : Tryz.prog.underlying 3 = some (.int .i64) := by kernel_rfl
theorem tu_5 : Tryz.prog.underlying 5 = some (.int .u8) := by kernel_rfl
theorem Xb : tyAgg Tryz.prog 9 = some none := by kernel_rfl
theorem ts_9 : (Tryz.prog.info? 9).map (·.size) = some 1 := by kernel_rfl
theorem Ws : Tryz.prog.underlying 9 = some (.string) := by kernel_rfl
theorem ta_22 : tyAgg Tryz.prog 22 = some none := by kernel_rfl
theorem ts_22 : (Tryz.prog.info? 22).map (·.size) = some 1 := by kernel_rfl
theorem te_22 : tyElem Tryz.prog 22 = some (27, 5) := by kernel_rfl
theorem el_22 : ElT Tryz.prog 22 27 (.agg #[(.string ⟨#[]⟩), (.int .i64 0), (.string ⟨#[]⟩), (.int .i64 0), (.slice none 0 0)]) 5 72 := ⟨by kernel_rfl, by kernel_rfl, rfl, by decide, by decide⟩
theorem tu_22 : Tryz.prog.underlying 22 = some (.slice 27) := by kernel_rfl
theorem Vg : tyAgg Tryz.prog 23 = some none := by kernel_rfl
theorem ts_23 : (Tryz.prog.info? 23).map (·.size) = some 1 := by kernel_rfl
theorem te_23 : tyElem Tryz.prog 23 = some (25, 4) := by kernel_rfl
theorem el_23 : ElT Tryz.prog 23 25 (.agg #[(.int .i64 0), (.string ⟨#[]⟩), (.int .i64 0), (.slice none 0 0)]) 4 56 := ⟨by kernel_rfl, by kernel_rfl, rfl, by decide, by decide⟩
theorem tu_23 : Tryz.prog.underlying 23 = some (.slice 25) := by kernel_rfl
theorem Xz : tyAgg Tryz.prog 25 = some (some 4) := by kernel_rfl
theorem ts_25 : (Tryz.prog.info? 25).map (·.size) = some 4 := by kernel_rfl
theorem tz_25 : tyZero Tryz.prog 25 = some (.agg #[(.int .i64 0), (.string ⟨#[]⟩), (.int .i64 0), (.slice none 0 0)]) := by kernel_rfl
theorem tf_25_0 : tyFld Tryz.prog 25 0 = some 0 := by kernel_rfl
theorem Wp : tyFld Tryz.prog 25 1 = some 1 := by kernel_rfl
theorem tf_25_2 : tyFld Tryz.prog 25 2 = some 2 := by kernel_rfl
theorem Wc : tyFld Tryz.prog 25 3 = some 3 := by kernel_rfl
theorem tfl_25 : tyFlds Tryz.prog 25 = some [(0, 1), (1, 1), (2, 1), (3, 1)] := by kernel_rfl
theorem ta_27 : tyAgg Tryz.prog 27 = some (some 5) := by kernel_rfl
theorem ts_27 : (Tryz.prog.info? 27).map (·.size) = some 5 := by kernel_rfl
theorem tz_27 : tyZero Tryz.prog 27 = some (.agg #[(.string ⟨#[]⟩), (.int .i64 0), (.string ⟨#[]⟩), (.int .i64 0), (.slice none 0 0)]) := by kernel_rfl
theorem Vb : tyFld Tryz.prog 27 0 = some 0 := by kernel_rfl
theorem Wk : tyFld Tryz.prog 27 1 = some 1 := by kernel_rfl
theorem tfl_27 : tyFlds Tryz.prog 27 = some [(0, 1), (1, 4)] := by kernel_rfl
theorem ta_28 : tyAgg Tryz.prog 28 = some none := by kernel_rfl
theorem ts_28 : (Tryz.prog.info? 28).map (·.size) = some 1 := by kernel_rfl
theorem tz_28 : tyZero Tryz.prog 28 = some (.slice none 0 0) := by kernel_rfl
theorem te_28 : tyElem Tryz.prog 28 = some (30, 4) := by kernel_rfl
theorem el_28 : ElT Tryz.prog 28 30 (.agg #[(.int .i64 0), (.int .i64 0), (.string ⟨#[]⟩), (.slice none 0 0)]) 4 56 := ⟨by kernel_rfl, by kernel_rfl, rfl, by decide, by decide⟩
theorem tu_28 : Tryz.prog.underlying 28 = some (.slice 30) := by kernel_rfl
theorem Wm : tyAgg Tryz.prog 30 = some (some 4) := by kernel_rfl
theorem ts_30 : (Tryz.prog.info? 30).map (·.size) = some 4 := by kernel_rfl
theorem tz_30 : tyZero Tryz.prog 30 = some (.agg #[(.int .i64 0), (.int .i64 0), (.string ⟨#[]⟩), (.slice none 0 0)]) := by kernel_rfl
theorem tf_30_0 : tyFld Tryz.prog 30 0 = some 0 := by kernel_rfl
theorem Wu : tyFld Tryz.prog 30 1 = some 1 := by kernel_rfl
theorem tf_30_2 : tyFld Tryz.prog 30 2 = some 2 := by kernel_rfl
theorem tf_30_3 : tyFld Tryz.prog 30 3 = some 3 := by kernel_rfl
theorem tfl_30 : tyFlds Tryz.prog 30 = some [(0, 1), (1, 1), (2, 1), (3, 1)] := by kernel_rfl
theorem ta_32 : tyAgg Tryz.prog 32 = some (some 12) := by kernel_rfl
theorem tf_32_0 : tyFld Tryz.prog 32 0 = some 0 := by kernel_rfl
theorem tf_32_1 : tyFld Tryz.prog 32 1 = some 1 := by kernel_rfl
theorem tf_32_2 : tyFld Tryz.prog 32 2 = some 6 := by kernel_rfl
theorem tf_32_3 : tyFld Tryz.prog 32 3 = some 10 := by kernel_rfl
theorem tf_32_4 : tyFld Tryz.prog 32 4 = some 11 := by kernel_rfl
theorem ta_34 : tyAgg Tryz.prog 34 = some none := by kernel_rfl
theorem ts_34 : (Tryz.prog.info? 34).map (·.size) = some 1 := by kernel_rfl
theorem te_34 : tyElem Tryz.prog 34 = some (102, 5) := by kernel_rfl
theorem el_34 : ElT Tryz.prog 34 102 (.agg #[(.string ⟨#[]⟩), (.slice none 0 0), (.slice none 0 0), (.slice none 0 0), (.int .i64 0)]) 5 96 := ⟨by kernel_rfl, by kernel_rfl, rfl, by decide, by decide⟩
theorem tu_34 : Tryz.prog.underlying 34 = some (.slice 102) := by kernel_rfl
theorem Vm : tyAgg Tryz.prog 35 = some none := by kernel_rfl
theorem ts_35 : (Tryz.prog.info? 35).map (·.size) = some 1 := by kernel_rfl
theorem te_35 : tyElem Tryz.prog 35 = some (77, 6) := by kernel_rfl
theorem el_35 : ElT Tryz.prog 35 77 (.agg #[(.string ⟨#[]⟩), (.string ⟨#[]⟩), (.slice none 0 0), (.slice none 0 0), (.slice none 0 0), (.int .i64 0)]) 6 112 := ⟨by kernel_rfl, by kernel_rfl, rfl, by decide, by decide⟩
theorem tu_35 : Tryz.prog.underlying 35 = some (.slice 77) := by kernel_rfl
theorem ta_36 : tyAgg Tryz.prog 36 = some none := by kernel_rfl
theorem ts_36 : (Tryz.prog.info? 36).map (·.size) = some 1 := by kernel_rfl
theorem te_36 : tyElem Tryz.prog 36 = some (73, 8) := by kernel_rfl
theorem el_36 : ElT Tryz.prog 36 73 (.agg #[(.string ⟨#[]⟩), (.int .i64 0), (.string ⟨#[]⟩), (.int .i64 0), (.slice none 0 0), (.slice none 0 0), (.slice none 0 0), (.int .i64 0)]) 8 128 := ⟨by kernel_rfl, by kernel_rfl, rfl, by decide, by decide⟩
theorem tu_36 : Tryz.prog.underlying 36 = some (.slice 73) := by kernel_rfl
theorem Xw : tyAgg Tryz.prog 38 = some (some 3) := by kernel_rfl
theorem ts_38 : (Tryz.prog.info? 38).map (·.size) = some 3 := by kernel_rfl
theorem tz_38 : tyZero Tryz.prog 38 = some (.agg #[(.slice none 0 0), (.slice none 0 0), (.slice none 0 0)]) := by kernel_rfl
theorem tf_38_0 : tyFld Tryz.prog 38 0 = some 0 := by kernel_rfl
theorem Wi : tyFld Tryz.prog 38 1 = some 1 := by kernel_rfl
theorem Vc : tyFld Tryz.prog 38 2 = some 2 := by kernel_rfl
theorem tfl_38 : tyFlds Tryz.prog 38 = some [(0, 1), (1, 1), (2, 1)] := by kernel_rfl
theorem ta_53 : tyAgg Tryz.prog 53 = some none := by kernel_rfl
theorem ts_53 : (Tryz.prog.info? 53).map (·.size) = some 1 := by kernel_rfl
theorem te_53 : tyElem Tryz.prog 53 = some (112, 13) := by kernel_rfl
theorem el_53 : ElT Tryz.prog 53 112 (.agg #[(.string ⟨#[]⟩), (.int .i64 0), (.string ⟨#[]⟩), (.int .i64 0), (.int .i64 0), (.string ⟨#[]⟩), (.int .i64 0), (.slice none 0 0), (.slice none 0 0), (.slice none 0 0), (.slice none 0 0), (.int .i64 0), (.int .i64 0)]) 13 192 := ⟨by kernel_rfl, by kernel_rfl, rfl, by decide, by decide⟩
theorem tu_53 : Tryz.prog.underlying 53 = some (.slice 112) := by kernel_rfl
theorem ta_55 : tyAgg Tryz.prog 55 = some (some 4) := by kernel_rfl
theorem ts_55 : (Tryz.prog.info? 55).map (·.size) = some 4 := by kernel_rfl
theorem tz_55 : tyZero Tryz.prog 55 = some (.agg #[(.slice none 0 0), (.slice none 0 0), (.slice none 0 0), (.slice none 0 0)]) := by kernel_rfl
theorem tf_55_0 : tyFld Tryz.prog 55 0 = some 0 := by kernel_rfl
theorem tf_55_1 : tyFld Tryz.prog 55 1 = some 1 := by kernel_rfl
theorem tf_55_2 : tyFld Tryz.prog 55 2 = some 2 := by kernel_rfl
theorem tf_55_3 : tyFld Tryz.prog 55 3 = some 3 := by kernel_rfl
theorem tfl_55 : tyFlds Tryz.prog 55 = some [(0, 1), (1, 1), (2, 1), (3, 1)] := by kernel_rfl
theorem Ve : tyAgg Tryz.prog 59 = some (some 2) := by kernel_rfl
theorem Vi : (Tryz.prog.info? 59).map (·.size) = some 2 := by kernel_rfl
theorem Vn : tyZero Tryz.prog 59 = some (.agg #[(.int .i64 0), (.int .i64 0)]) := by kernel_rfl
theorem tf_59_0 : tyFld Tryz.prog 59 0 = some 0 := by kernel_rfl
theorem Vj : tyFlds Tryz.prog 59 = some [(0, 1), (1, 1)] := by kernel_rfl
theorem ta_68 : tyAgg Tryz.prog 68 = some none := by kernel_rfl
theorem ts_68 : (Tryz.prog.info? 68).map (·.size) = some 1 := by kernel_rfl
theorem tz_68 : tyZero Tryz.prog 68 = some (.slice none 0 0) := by kernel_rfl
theorem te_68 : tyElem Tryz.prog 68 = some (9, 1) := by kernel_rfl
theorem el_68 : ElT Tryz.prog 68 9 (.string ⟨#[]⟩) 1 16 := ⟨by kernel_rfl, by kernel_rfl, rfl, by decide, by decide⟩
theorem tu_68 : Tryz.prog.underlying 68 = some (.slice 9) := by kernel_rfl
theorem ta_73 : tyAgg Tryz.prog 73 = some (some 8) := by kernel_rfl
theorem ts_73 : (Tryz.prog.info? 73).map (·.size) = some 8 := by kernel_rfl
theorem tz_73 : tyZero Tryz.prog 73 = some (.agg #[(.string ⟨#[]⟩), (.int .i64 0), (.string ⟨#[]⟩), (.int .i64 0), (.slice none 0 0), (.slice none 0 0), (.slice none 0 0), (.int .i64 0)]) := by kernel_rfl
theorem tf_73_0 : tyFld Tryz.prog 73 0 = some 0 := by kernel_rfl
theorem Vd : tyFld Tryz.prog 73 1 = some 1 := by kernel_rfl
theorem tf_73_2 : tyFld Tryz.prog 73 2 = some 5 := by kernel_rfl
theorem tf_73_3 : tyFld Tryz.prog 73 3 = some 6 := by kernel_rfl
theorem tf_73_4 : tyFld Tryz.prog 73 4 = some 7 := by kernel_rfl
theorem tfl_73 : tyFlds Tryz.prog 73 = some [(0, 1), (1, 4), (5, 1), (6, 1), (7, 1)] := by kernel_rfl
theorem ta_75 : tyAgg Tryz.prog 75 = some none := by kernel_rfl
theorem ts_75 : (Tryz.prog.info? 75).map (·.size) = some 1 := by kernel_rfl
theorem te_75 : tyElem Tryz.prog 75 = some (145, 6) := by kernel_rfl
theorem el_75 : ElT Tryz.prog 75 145 (.agg #[(.string ⟨#[]⟩), (.int .i64 0), (.string ⟨#[]⟩), (.int .i64 0), (.slice none 0 0), (.int .i64 0)]) 6 80 := ⟨by kernel_rfl, by kernel_rfl, rfl, by decide, by decide⟩
theorem tu_75 : Tryz.prog.underlying 75 = some (.slice 145) := by kernel_rfl
theorem ta_77 : tyAgg Tryz.prog 77 = some (some 6) := by kernel_rfl
theorem ts_77 : (Tryz.prog.info? 77).map (·.size) = some 6 := by kernel_rfl
theorem tz_77 : tyZero Tryz.prog 77 = some (.agg #[(.string ⟨#[]⟩), (.string ⟨#[]⟩), (.slice none 0 0), (.slice none 0 0), (.slice none 0 0), (.int .i64 0)]) := by kernel_rfl
theorem tf_77_0 : tyFld Tryz.prog 77 0 = some 0 := by kernel_rfl
theorem tf_77_1 : tyFld Tryz.prog 77 1 = some 1 := by kernel_rfl
theorem tf_77_2 : tyFld Tryz.prog 77 2 = some 2 := by kernel_rfl
theorem tf_77_3 : tyFld Tryz.prog 77 3 = some 3 := by kernel_rfl
theorem tf_77_4 : tyFld Tryz.prog 77 4 = some 4 := by kernel_rfl
theorem tf_77_5 : tyFld Tryz.prog 77 5 = some 5 := by kernel_rfl
theorem tfl_77 : tyFlds Tryz.prog 77 = some [(0, 1), (1, 1), (2, 1), (3, 1), (4, 1), (5, 1)] := by kernel_rfl
theorem ta_83 : tyAgg Tryz.prog 83 = some none := by kernel_rfl
theorem tz_85 : tyZero Tryz.prog 85 = some (.agg #[(.slice none 0 0), (.slice none 0 0), (.slice none 0 0), (.slice none 0 0)]) := by kernel_rfl
theorem tf_85_0 : tyFld Tryz.prog 85 0 = some 0 := by kernel_rfl
theorem tf_85_1 : tyFld Tryz.prog 85 1 = some 3 := by kernel_rfl
theorem tfl_85 : tyFlds Tryz.prog 85 = some [(0, 3), (3, 1)] := by kernel_rfl
theorem ta_93 : tyAgg Tryz.prog 93 = some none := by kernel_rfl
theorem te_93 : tyElem Tryz.prog 93 = some (97, 4) := by kernel_rfl
theorem el_93 : ElT Tryz.prog 93 97 (.agg #[(.int .i64 0), (.string ⟨#[]⟩), (.int .i64 0), (.int .i64 0)]) 4 40 := ⟨by kernel_rfl, by kernel_rfl, rfl, by decide, by decide⟩
theorem tu_93 : Tryz.prog.underlying 93 = some (.slice 97) := by kernel_rfl
theorem tz_95 : tyZero Tryz.prog 95 = some (.agg #[(.slice none 0 0), (.int .i64 0), (.int .i64 0), (.int .i64 0), (.int .i64 0)]) := by kernel_rfl
theorem tf_95_0 : tyFld Tryz.prog 95 0 = some 0 := by kernel_rfl
theorem tf_95_1 : tyFld Tryz.prog 95 1 = some 1 := by kernel_rfl
theorem tf_95_2 : tyFld Tryz.prog 95 2 = some 2 := by kernel_rfl
theorem Vo : tyFld Tryz.prog 95 3 = some 3 := by kernel_rfl
theorem tf_95_4 : tyFld Tryz.prog 95 4 = some 4 := by kernel_rfl
theorem tfl_95 : tyFlds Tryz.prog 95 = some [(0, 1), (1, 1), (2, 1), (3, 1), (4, 1)] := by kernel_rfl
theorem Yq : tyAgg Tryz.prog 97 = some (some 4) := by kernel_rfl
theorem Xk : (Tryz.prog.info? 97).map (·.size) = some 4 := by kernel_rfl
theorem Wj : tyZero Tryz.prog 97 = some (.agg #[(.int .i64 0), (.string ⟨#[]⟩), (.int .i64 0), (.int .i64 0)]) := by kernel_rfl
theorem Xf : tyFld Tryz.prog 97 0 = some 0 := by kernel_rfl
theorem Xh : tyFld Tryz.prog 97 1 = some 1 := by kernel_rfl
theorem tf_97_2 : tyFld Tryz.prog 97 2 = some 2 := by kernel_rfl
theorem Wv : tyFld Tryz.prog 97 3 = some 3 := by kernel_rfl
theorem tfl_97 : tyFlds Tryz.prog 97 = some [(0, 1), (1, 1), (2, 1), (3, 1)] := by kernel_rfl
theorem ta_100 : tyAgg Tryz.prog 100 = some none := by kernel_rfl
theorem ts_100 : (Tryz.prog.info? 100).map (·.size) = some 1 := by kernel_rfl
theorem te_100 : tyElem Tryz.prog 100 = some (140, 3) := by kernel_rfl
theorem el_100 : ElT Tryz.prog 100 140 (.agg #[(.string ⟨#[]⟩), (.slice none 0 0), (.int .i64 0)]) 3 48 := ⟨by kernel_rfl, by kernel_rfl, rfl, by decide, by decide⟩
theorem tu_100 : Tryz.prog.underlying 100 = some (.slice 140) := by kernel_rfl
theorem ta_102 : tyAgg Tryz.prog 102 = some (some 5) := by kernel_rfl
theorem ts_102 : (Tryz.prog.info? 102).map (·.size) = some 5 := by kernel_rfl
theorem tz_102 : tyZero Tryz.prog 102 = some (.agg #[(.string ⟨#[]⟩), (.slice none 0 0), (.slice none 0 0), (.slice none 0 0), (.int .i64 0)]) := by kernel_rfl
theorem tf_102_0 : tyFld Tryz.prog 102 0 = some 0 := by kernel_rfl
theorem tf_102_1 : tyFld Tryz.prog 102 1 = some 1 := by kernel_rfl
theorem tf_102_2 : tyFld Tryz.prog 102 2 = some 2 := by kernel_rfl
theorem tf_102_3 : tyFld Tryz.prog 102 3 = some 3 := by kernel_rfl
theorem tf_102_4 : tyFld Tryz.prog 102 4 = some 4 := by kernel_rfl
theorem tfl_102 : tyFlds Tryz.prog 102 = some [(0, 1), (1, 1), (2, 1), (3, 1), (4, 1)] := by kernel_rfl
theorem ta_107 : tyAgg Tryz.prog 107 = some none := by kernel_rfl
theorem ts_107 : (Tryz.prog.info? 107).map (·.size) = some 1 := by kernel_rfl
theorem te_107 : tyElem Tryz.prog 107 = some (110, 11) := by kernel_rfl
theorem el_107 : ElT Tryz.prog 107 110 (.agg #[(.int .i64 0), (.string ⟨#[]⟩), (.int .i64 0), (.int .i64 0), (.string ⟨#[]⟩), (.int .i64 0), (.slice none 0 0), (.slice none 0 0), (.slice none 0 0), (.slice none 0 0), (.int .i64 0)]) 11 168 := ⟨by kernel_rfl, by kernel_rfl, rfl, by decide, by decide⟩
theorem ta_108 : tyAgg Tryz.prog 108 = some none := by kernel_rfl
theorem ts_108 : (Tryz.prog.info? 108).map (·.size) = some 1 := by kernel_rfl
theorem el_108 : ElT Tryz.prog 108 187 (.agg #[(.int .i64 0), (.string ⟨#[]⟩), (.int .i64 0), (.slice none 0 0), (.int .i64 0), (.int .i64 0), (.string ⟨#[]⟩), (.int .i64 0), (.int .i64 0), (.string ⟨#[]⟩), (.int .i64 0), (.slice none 0 0), (.slice none 0 0), (.slice none 0 0), (.slice none 0 0), (.int .i64 0)]) 16 232 := ⟨by kernel_rfl, by kernel_rfl, rfl, by decide, by decide⟩
theorem Wf : tyAgg Tryz.prog 110 = some (some 11) := by kernel_rfl
theorem Wn : (Tryz.prog.info? 110).map (·.size) = some 11 := by kernel_rfl
theorem Wb : tyZero Tryz.prog 110 = some (.agg #[(.int .i64 0), (.string ⟨#[]⟩), (.int .i64 0), (.int .i64 0), (.string ⟨#[]⟩), (.int .i64 0), (.slice none 0 0), (.slice none 0 0), (.slice none 0 0), (.slice none 0 0), (.int .i64 0)]) := by kernel_rfl
theorem tf_110_0 : tyFld Tryz.prog 110 0 = some 0 := by kernel_rfl
theorem tf_110_1 : tyFld Tryz.prog 110 1 = some 1 := by kernel_rfl
theorem tf_110_2 : tyFld Tryz.prog 110 2 = some 2 := by kernel_rfl
theorem tf_110_4 : tyFld Tryz.prog 110 4 = some 7 := by kernel_rfl
theorem tf_110_5 : tyFld Tryz.prog 110 5 = some 8 := by kernel_rfl
theorem tf_110_6 : tyFld Tryz.prog 110 6 = some 9 := by kernel_rfl
theorem tfl_110 : tyFlds Tryz.prog 110 = some [(0, 1), (1, 1), (2, 1), (3, 4), (7, 1), (8, 1), (9, 1), (10, 1)] := by kernel_rfl
theorem ta_112 : tyAgg Tryz.prog 112 = some (some 13) := by kernel_rfl
theorem ts_112 : (Tryz.prog.info? 112).map (·.size) = some 13 := by kernel_rfl
theorem tz_112 : tyZero Tryz.prog 112 = some (.agg #[(.string ⟨#[]⟩), (.int .i64 0), (.string ⟨#[]⟩), (.int .i64 0), (.int .i64 0), (.string ⟨#[]⟩), (.int .i64 0), (.slice none 0 0), (.slice none 0 0), (.slice none 0 0), (.slice none 0 0), (.int .i64 0), (.int .i64 0)]) := by kernel_rfl
theorem tf_112_0 : tyFld Tryz.prog 112 0 = some 0 := by kernel_rfl
theorem tf_112_1 : tyFld Tryz.prog 112 1 = some 1 := by kernel_rfl
theorem tf_112_2 : tyFld Tryz.prog 112 2 = some 12 := by kernel_rfl
theorem tfl_112 : tyFlds Tryz.prog 112 = some [(0, 1), (1, 11), (12, 1)] := by kernel_rfl
theorem ta_123 : tyAgg Tryz.prog 123 = some none := by kernel_rfl
theorem ts_123 : (Tryz.prog.info? 123).map (·.size) = some 1 := by kernel_rfl
theorem tz_123 : tyZero Tryz.prog 123 = some .nilFunc := by kernel_rfl
theorem ta_124 : tyAgg Tryz.prog 124 = some none := by kernel_rfl
theorem ts_124 : (Tryz.prog.info? 124).map (·.size) = some 1 := by kernel_rfl
theorem tz_124 : tyZero Tryz.prog 124 = some .nilFunc := by kernel_rfl
theorem ta_132 : tyAgg Tryz.prog 132 = some none := by kernel_rfl
theorem ta_140 : tyAgg Tryz.prog 140 = some (some 3) := by kernel_rfl
theorem ts_140 : (Tryz.prog.info? 140).map (·.size) = some 3 := by kernel_rfl
theorem tz_140 : tyZero Tryz.prog 140 = some (.agg #[(.string ⟨#[]⟩), (.slice none 0 0), (.int .i64 0)]) := by kernel_rfl
theorem tf_140_0 : tyFld Tryz.prog 140 0 = some 0 := by kernel_rfl
theorem tf_140_1 : tyFld Tryz.prog 140 1 = some 1 := by kernel_rfl
theorem tf_140_2 : tyFld Tryz.prog 140 2 = some 2 := by kernel_rfl
theorem tfl_140 : tyFlds Tryz.prog 140 = some [(0, 1), (1, 1), (2, 1)] := by kernel_rfl
theorem ta_145 : tyAgg Tryz.prog 145 = some (some 6) := by kernel_rfl
theorem ts_145 : (Tryz.prog.info? 145).map (·.size) = some 6 := by kernel_rfl
theorem tz_145 : tyZero Tryz.prog 145 = some (.agg #[(.string ⟨#[]⟩), (.int .i64 0), (.string ⟨#[]⟩), (.int .i64 0), (.slice none 0 0), (.int .i64 0)]) := by kernel_rfl
theorem tf_145_0 : tyFld Tryz.prog 145 0 = some 0 := by kernel_rfl
theorem tf_145_1 : tyFld Tryz.prog 145 1 = some 1 := by kernel_rfl
theorem tf_145_2 : tyFld Tryz.prog 145 2 = some 5 := by kernel_rfl
theorem tfl_145 : tyFlds Tryz.prog 145 = some [(0, 1), (1, 4), (5, 1)] := by kernel_rfl
theorem ta_158 : tyAgg Tryz.prog 158 = some none := by kernel_rfl
theorem el_177 : ElT Tryz.prog 177 5 (.int .u8 0) 1 1 := ⟨by kernel_rfl, by kernel_rfl, rfl, by decide, by decide⟩
theorem tu_177 : Tryz.prog.underlying 177 = some (.slice 5) := by kernel_rfl
theorem tu_179 : Tryz.prog.underlying 179 = some (.int .u64) := by kernel_rfl
theorem ta_182 : tyAgg Tryz.prog 182 = some none := by kernel_rfl
theorem ts_182 : (Tryz.prog.info? 182).map (·.size) = some 1 := by kernel_rfl
theorem el_182 : ElT Tryz.prog 182 184 (.agg #[(.int .i64 0), (.string ⟨#[]⟩), (.int .i64 0), (.slice none 0 0), (.int .i64 0)]) 5 64 := ⟨by kernel_rfl, by kernel_rfl, rfl, by decide, by decide⟩
theorem ta_184 : tyAgg Tryz.prog 184 = some (some 5) := by kernel_rfl
theorem ts_184 : (Tryz.prog.info? 184).map (·.size) = some 5 := by kernel_rfl
theorem tz_184 : tyZero Tryz.prog 184 = some (.agg #[(.int .i64 0), (.string ⟨#[]⟩), (.int .i64 0), (.slice none 0 0), (.int .i64 0)]) := by kernel_rfl
theorem tf_184_0 : tyFld Tryz.prog 184 0 = some 0 := by kernel_rfl
theorem tf_184_1 : tyFld Tryz.prog 184 1 = some 1 := by kernel_rfl
theorem tf_184_2 : tyFld Tryz.prog 184 2 = some 2 := by kernel_rfl
theorem tf_184_3 : tyFld Tryz.prog 184 3 = some 3 := by kernel_rfl
theorem tfl_184 : tyFlds Tryz.prog 184 = some [(0, 1), (1, 1), (2, 1), (3, 1), (4, 1)] := by kernel_rfl
theorem ta_187 : tyAgg Tryz.prog 187 = some (some 16) := by kernel_rfl
theorem ts_187 : (Tryz.prog.info? 187).map (·.size) = some 16 := by kernel_rfl
theorem tz_187 : tyZero Tryz.prog 187 = some (.agg #[(.int .i64 0), (.string ⟨#[]⟩), (.int .i64 0), (.slice none 0 0), (.int .i64 0), (.int .i64 0), (.string ⟨#[]⟩), (.int .i64 0), (.int .i64 0), (.string ⟨#[]⟩), (.int .i64 0), (.slice none 0 0), (.slice none 0 0), (.slice none 0 0), (.slice none 0 0), (.int .i64 0)]) := by kernel_rfl
theorem tf_187_1 : tyFld Tryz.prog 187 1 = some 5 := by kernel_rfl
theorem tfl_187 : tyFlds Tryz.prog 187 = some [(0, 5), (5, 11)] := by kernel_rfl
open Go.RowKit
section
variable {P : Program}
theorem shape_int {fuel : Nat} {t : TypeId} {k : IntKind} {cs : List AV} (ht : P.underlying t = some (.int k)) (h : ShapeC P fuel t cs) : ∃ x, (k.min ≤ x ∧ x ≤ k.max) ∧ cs = [.val (.int k x)] := by
 cases fuel with
 | zero => unfold ShapeC at h; exact h.elim
 | succ n => unfold ShapeC at h; rw [ht] at h; exact h
theorem shape_str {fuel : Nat} {t : TypeId} {cs : List AV} (ht : P.underlying t = some .string) (h : ShapeC P fuel t cs) : ∃ s : ByteArray, s.size ≤ maxLen ∧ cs = [.val (.string s)] := by
 cases fuel with
 | zero => unfold ShapeC at h; exact h.elim
 | succ n => unfold ShapeC at h; rw [ht] at h; exact h
theorem shape_slice {fuel : Nat} {t e : TypeId} {cs : List AV} (ht : P.underlying t = some (.slice e)) (h : ShapeC P fuel t cs) : ∃ n es, n < fuel ∧ cs = [.seq (P.cellsOf e) es] ∧ ∀ x ∈ es, ShapeC P n e x := by
 cases fuel with
 | zero => unfold ShapeC at h; exact h.elim
 | succ n =>
  unfold ShapeC at h
  rw [ht] at h
  obtain ⟨es, h1, _, h2⟩ := h
  exact ⟨n, es, by omega, h1, h2⟩
theorem shape_struct {fuel : Nat} {t : TypeId} {fs : Array Field} {cs : List AV} (ht : P.underlying t = some (.struct fs)) (h : ShapeC P fuel t cs) : ∃ n, n < fuel ∧ ShapeF P n fs.toList cs := by
 cases fuel with
 | zero => unfold ShapeC at h; exact h.elim
 | succ n => unfold ShapeC at h; rw [ht] at h; exact ⟨n, by omega, h⟩
theorem pick_all {α : Type} {f : α → List AV} : ∀ {es : List (List AV)}, (∀ x ∈ es, ∃ a, x = f a) → ∃ l : List α, es = l.map f
 | [], _ => ⟨[], rfl⟩
 | e :: es, h => by
  obtain ⟨a, ha⟩ := h e (by simp)
  obtain ⟨l, hl⟩ := pick_all (fun x hx => h x (by simp [hx]) : ∀ x ∈ es, ∃ a, x = f a)
  exact ⟨a :: l, by rw [ha, hl]; rfl⟩
end
theorem cellsOf_ty : Tryz.prog.cellsOf 25 = 4 := by kernel_rfl
theorem shape_ty (fuel : Nat) : ∀ cs, ShapeC Tryz.prog fuel 25 cs → ∃ t : Ty, cs = t.cells := by
 induction fuel using Nat.strongRecOn with
 | _ fuel ih =>
  intro cs h
  obtain ⟨n, hn, h⟩ := shape_struct Tryz.underlying25 h
  simp only [ShapeF] at h
  obtain ⟨a1, b1, rfl, h1, a2, b2, rfl, h2, a3, b3, rfl, h3, a4, b4, rfl, h4, rfl⟩ := h
  obtain ⟨k, _, rfl⟩ := shape_int tu_3 h1
  obtain ⟨s, _, rfl⟩ := shape_str Ws h2
  obtain ⟨m, _, rfl⟩ := shape_int tu_3 h3
  obtain ⟨n', es, hn', rfl, h5⟩ := shape_slice tu_23 h4
  obtain ⟨ts, rfl⟩ := pick_all (f := Ty.cells) (fun x hx => ih n' (by omega) x (h5 x hx))
  refine ⟨.mk k s m ts, ?_⟩
  rw [cellsOf_ty, ← Ty.cellss_map]
  rfl
def W63 (n : Int) : Int := (n + 4611686018427387904) % 9223372036854775808 - 4611686018427387904
theorem W63_id (n : Int) (h1 : -4611686018427387904 ≤ n) (h2 : n ≤ 4611686018427387903) : W63 n = n := by unfold W63; omega
theorem W63_congr {a b : Int} (h : a % 9223372036854775808 = b % 9223372036854775808) : W63 a = W63 b := by unfold W63; omega
def R63 (n : Int) : Int := n % 9223372036854775808
theorem R63_lo (n : Int) : 0 ≤ R63 n := by unfold R63; omega
theorem R63_hi (n : Int) : R63 n ≤ 9223372036854775807 := by unfold R63; omega
theorem R63_u64 (n : Int) : (IntKind.u64.wrap n).tmod 9223372036854775808 = R63 n := by
 rw [Int.tmod_eq_emod_of_nonneg (by simp [IntKind.wrap_u64]; omega)]
 simp only [IntKind.wrap_u64, R63]; omega
theorem W63_R63 (n : Int) : W63 (R63 n) = W63 n := W63_congr (by unfold R63; omega)
def sgn (u : Int) (neg : Bool) : Int := if neg then -u else u
end Go.Proofs.YtknodnfbaofngaaGreat
namespace Go.Proofs.YtknodnfbaofngaaGreat
def bytesN (s : ByteArray) : List Nat := s.data.toList.map UInt8.toNat
theorem bytesN_len (s : ByteArray) : (bytesN s).length = s.size := by simp [bytesN]
theorem bytesN_get (s : ByteArray) (k : Nat) (h : k < s.size) (h' : k < (bytesN s).length) : (bytesN s)[k] = (s[k]).toNat := by
 simp [bytesN]; rfl
theorem bytesN_lt (s : ByteArray) : ∀ x ∈ bytesN s, x < 256 := by
 intro x hx
 simp only [bytesN, List.mem_map] at hx
 obtain ⟨b, _, rfl⟩ := hx
 exact b.toNat_lt
def strN (b : List Nat) : ByteArray := strOfNums (b.map fun x : Nat => (x : Int))
theorem bytesN_strN (b : List Nat) (h : ∀ x ∈ b, x < 256) : bytesN (strN b) = b := by
 unfold bytesN strN
 rw [strOfNums_data, List.map_map, List.map_map]
 conv => rhs; rw [← List.map_id b]
 apply List.map_congr_left
 intro x hx
 have := h x hx
 simp; omega
theorem strN_bytesN (s : ByteArray) : strN (bytesN s) = s := by
 apply Go.WideShapes.bytes_inj
 unfold bytesN strN
 rw [strOfNums_data, List.map_map, List.map_map]
 conv => rhs; rw [← List.map_id s.data.toList]
 apply List.map_congr_left
 intro x _
 simp
def rst (s : ByteArray) (i : Nat) : List Nat := (bytesN s).drop i
theorem rst_len (s : ByteArray) (i : Nat) : (rst s i).length = s.size - i := by unfold rst; rw [List.length_drop, bytesN_len]
theorem rst_nil {s : ByteArray} {i : Nat} (h : s.size ≤ i) : rst s i = [] := by
 apply List.eq_nil_of_length_eq_zero; rw [rst_len]; omega
theorem Wx {s : ByteArray} {i : Nat} (h : i < s.size) : ∃ b : UInt8, s[i]? = some b ∧ rst s i = b.toNat :: rst s (i + 1) ∧ b.toNat < 256 := by
 refine ⟨s[i], ?_, ?_, UInt8.toNat_lt _⟩
 ·simp [h]
 unfold rst
 have h' : i < (bytesN s).length := by rw [bytesN_len]; exact h
 rw [List.drop_eq_getElem_cons h', bytesN_get s i h h']
theorem rst_drop (s : ByteArray) (i n : Nat) : (rst s i).drop n = rst s (i + n) := by unfold rst; rw [List.drop_drop]
theorem rst_cut (s : ByteArray) (i j : Nat) : s.extract i j = strN ((rst s i).take (j - i)) := by
 rw [← strN_bytesN (s.extract i j)]
 congr 1
 unfold rst bytesN
 rw [ByteArray.data_extract, Array.toList_extract, List.extract_eq_take_drop, List.map_take, List.map_drop]
theorem rst_lt (s : ByteArray) (i : Nat) : ∀ x ∈ rst s i, x < 256 := fun x hx => bytesN_lt s x (List.mem_of_mem_drop hx)

/- what bytes are -/
def smallC (c : Nat) : Bool := (97 ≤ c && c ≤ 122) || c == 95
def greatC (c : Nat) : Bool := 65 ≤ c && c ≤ 90
def digitC (c : Nat) : Bool := 48 ≤ c && c ≤ 57
def nameC (c : Nat) : Bool := smallC c || greatC c || digitC c || c == 39
def signL : List Nat := [33, 36, 37, 38, 42, 43, 46, 47, 60, 61, 62, 63, 64, 94, 124, 126, 58, 45]
def signC (c : Nat) : Bool := signL.contains c
def blankC (c : Nat) : Bool := c == 32 || c == 9 || c == 10 || c == 13
def kindC (k c : Nat) : Bool := if k = 1 then nameC c else if k = 2 then digitC c else signC c
def run (k : Nat) : List Nat → Nat
 | [] => 0
 | c :: l => if kindC k c = true then run k l + 1 else 0
theorem run_le (k : Nat) : ∀ l, run k l ≤ l.length
 | [] => Nat.le_refl _
 | c :: l => by
  unfold run
  have := run_le k l
  split <;> simp <;> omega
def ovr : Bool → List Nat → Nat
 | _, [] => 0
 | true, c :: l => if c = 10 then ovr false l + 1 else ovr true l + 1
 | false, c :: l => if c = 35 then ovr true l + 1 else if blankC c = true then ovr false l + 1 else 0
theorem ovr_le : ∀ (b : Bool) (l : List Nat), ovr b l ≤ l.length
 | b, [] => by cases b <;> exact Nat.le_refl _
 | true, c :: l => by
  unfold ovr
  have h1 := ovr_le true l
  have h2 := ovr_le false l
  split <;> simp <;> omega
 | false, c :: l => by
  unfold ovr
  have h1 := ovr_le true l
  have h2 := ovr_le false l
  split
  ·simp; omega
  split <;> simp <;> omega
theorem ovr_nil (b : Bool) : ovr b [] = 0 := by cases b <;> rfl
theorem ovr_10 (l : List Nat) : ovr true (10 :: l) = ovr false (10 :: l) := rfl
theorem ovr_n10 {c : Nat} (l : List Nat) (h : c ≠ 10) : ovr true (c :: l) = ovr true l + 1 := by rw [ovr, if_neg h]
theorem ovr_35 (l : List Nat) : ovr false (35 :: l) = ovr true (35 :: l) := rfl
theorem ovr_blank {c : Nat} (l : List Nat) (h : c ≠ 35) (hb : blankC c = true) : ovr false (c :: l) = ovr false l + 1 := by rw [ovr, if_neg h, if_pos hb]
theorem ovr_stop {c : Nat} (l : List Nat) (h : c ≠ 35) (hb : ¬ blankC c = true) : ovr false (c :: l) = 0 := by rw [ovr, if_neg h, if_neg hb]

/- characters -/
def cont : Nat → Int → List Nat → Option Int
 | 0, v, _ => some v
 | _ + 1, _, [] => none
 | n + 1, v, d :: l => if d < 128 ∨ 191 < d then none else cont n (64 * v + d - 128) l
def utfN (c : Nat) : Nat := if c < 192 then 0 else if c < 224 then 2 else if c < 240 then 3 else if c < 248 then 4 else 0
def utfV (c : Nat) : Int := if c < 192 then 0 else if c < 224 then c - 192 else if c < 240 then c - 224 else if c < 248 then c - 240 else 0
def utfM (c : Nat) : Int := if c < 192 then 0 else if c < 224 then 128 else if c < 240 then 2048 else if c < 248 then 65536 else 0
def utfL : List Nat → Nat
 | [] => 0
 | c :: l => if c < 128 then 1 else if utfN c = 0 ∨ l.length + 1 < utfN c then 0 else
  match cont (utfN c - 1) (utfV c) l with
  | none => 0
  | some v => if v < utfM c ∨ 1114111 < v ∨ (55296 ≤ v ∧ v ≤ 57343) then 0 else utfN c
theorem utfL_cons (c : Nat) (l : List Nat) : utfL (c :: l) = if c < 128 then 1 else if utfN c = 0 ∨ l.length + 1 < utfN c then 0 else
    match cont (utfN c - 1) (utfV c) l with
    | none => 0
    | some v => if v < utfM c ∨ 1114111 < v ∨ (55296 ≤ v ∧ v ≤ 57343) then 0 else utfN c := rfl
theorem utfL_le (l : List Nat) : utfL l ≤ l.length := by
 cases l with
 | nil => exact Nat.le_refl _
 | cons c l =>
  rw [utfL_cons]
  by_cases h1 : c < 128
  ·rw [if_pos h1]; simp
  rw [if_neg h1]
  by_cases h2 : utfN c = 0 ∨ l.length + 1 < utfN c
  ·rw [if_pos h2]; simp
  rw [if_neg h2]
  cases cont (utfN c - 1) (utfV c) l with
  | none => simp
  | some v =>
   simp only [List.length_cons]
   by_cases h3 : v < utfM c ∨ 1114111 < v ∨ (55296 ≤ v ∧ v ≤ 57343)
   ·rw [if_pos h3]; omega
   rw [if_neg h3]; omega
def badF : Nat → Nat → List Nat → Int
 | 0, _, _ => -1
 | _ + 1, _, [] => -1
 | f + 1, i, c :: l => if utfL (c :: l) = 0 then i else badF f (i + utfL (c :: l)) ((c :: l).drop (utfL (c :: l)))

/- texts -/
def unesc (c : Nat) : Option Nat := if c = 110 then some 10 else if c = 116 then some 9 else if c = 34 ∨ c = 92 then some c else none
def txL : List Nat → Option (List Nat × Nat)
 | [] => none
 | c :: l => if c = 34 then some ([], 1) else if c = 10 then none else if c = 92 then
     match l with
     | [] => none
     | d :: l' => match unesc d with
      | none => none
      | some x => (txL l').map fun r => (x :: r.1, r.2 + 2)
  else (txL l).map fun r => (c :: r.1, r.2 + 1)

/- tokens -/
structure Tok where
 k : Int
 t : ByteArray
 n : Int
 a : Int
deriving DecidableEq
def Tok.cells (t : Tok) : List Value := [.int .i64 t.k, .string t.t, .int .i64 t.n, .int .i64 t.a]
def tok0 (a : Int) : Tok := ⟨0, ⟨#[]⟩, 0, a⟩
def keysL : List ByteArray := [⟨#[100, 97, 116, 97]⟩, ⟨#[99, 108, 97, 115, 115]⟩, ⟨#[105, 110, 115, 116, 97, 110, 99, 101]⟩, ⟨#[102, 114, 111, 109]⟩, ⟨#[119, 104, 101, 114, 101]⟩, ⟨#[101, 110, 100]⟩, ⟨#[100, 101, 114, 105, 118, 105, 110, 103]⟩, ⟨#[100, 101, 102]⟩, ⟨#[108, 101, 116]⟩, ⟨#[114, 101, 99]⟩, ⟨#[97, 110, 100]⟩, ⟨#[105, 110]⟩, ⟨#[99, 97, 115, 101]⟩, ⟨#[111, 102]⟩, ⟨#[105, 102]⟩, ⟨#[116, 104, 101, 110]⟩, ⟨#[101, 108, 115, 101]⟩]
def marksL : List ByteArray := [⟨#[40]⟩, ⟨#[41]⟩, ⟨#[44]⟩, ⟨#[59]⟩, ⟨#[92]⟩, ⟨#[95]⟩, ⟨#[61]⟩, ⟨#[45, 62]⟩, ⟨#[124]⟩, ⟨#[58]⟩]
def amongB (s : ByteArray) (l : List ByteArray) : Bool := l.any fun x => decide (x = s)
def keyT (s : ByteArray) : Bool := amongB s keysL
def markT (s : ByteArray) : Bool := amongB s marksL
def zeros : List Nat → Nat
 | [] => 0
 | c :: l => if c = 48 ∧ l ≠ [] then zeros l + 1 else 0
def valO : Nat → List Nat → Option Nat
 | n, [] => some n
 | n, d :: l => if 4611686018427387904 < (10 * n + (d - 48)) % 18446744073709551616 then none else valO ((10 * n + (d - 48)) % 18446744073709551616) l
def parL (l : List Nat) : Option Nat := match valO 0 l with
 | none => none
 | some n => if n = 4611686018427387904 then none else some n
def kindT (c : Nat) (w : ByteArray) : Int := if markT w = true then 7 else if keyT w = true then 6 else if signC c = true then 5 else if greatC c = true then 2 else 1
def oneL (at_ : Int) : List Nat → Tok × Int × Int
 | [] => (tok0 at_, 0, 0)
 | c :: r =>
  if c = 34 then
   match txL r with
   | none => (tok0 at_, 0, 103)
   | some x => (⟨4, strN x.1, 0, at_⟩, at_ + 1 + x.2, 0)
  else if digitC c = true then
   let d := (c :: r).take (run 2 (c :: r))
   let z := d.drop (zeros d)
   match parL z with
   | none => (tok0 at_, 0, 102)
   | some v => (⟨3, strN z, v, at_⟩, at_ + run 2 (c :: r), 0)
  else
   let k := if smallC c = true ∨ greatC c = true then run 1 (c :: r) else if signC c = true then run 3 (c :: r) else 1
   let w := strN ((c :: r).take k)
   if ¬ (smallC c = true ∨ greatC c = true ∨ signC c = true) ∧ markT w = false then (tok0 at_, 0, 101)
   else if 40 < k then (⟨0, w, 0, at_⟩, 0, 104)
   else (⟨kindT c w, w, 0, at_⟩, at_ + k, 0)
def lexF : Nat → Int → List Nat → List Tok → List Tok × Int × Int
 | _, i, [], acc => (acc ++ [tok0 i], 0, 0)
 | 0, _, _ :: _, _ => ([], 0, 0)
 | f + 1, i, c :: l, acc =>
  let o := oneL i (c :: l)
  if o.2.2 ≠ 0 then ([], o.2.2, i) else
   let l' := (c :: l).drop (o.2.1 - i).toNat
   let k := ovr false l'
   lexF f (o.2.1 + k) (l'.drop k) (acc ++ [o.1])
def scanT (s : ByteArray) : List Tok × Int × Int :=
 if 60000 < s.size then ([], 3, 0) else
 if 0 ≤ badF (s.size + 1) 0 (rst s 0) then ([], 100, badF (s.size + 1) 0 (rst s 0)) else
 lexF (s.size + 1) (ovr false (rst s 0)) ((rst s 0).drop (ovr false (rst s 0))) []
def sameB (a b : ByteArray) : Bool := decide (a = b)
theorem Wt {a b : ByteArray} : sameB a b = true ↔ a = b := by unfold sameB; simp
def hasB (l : List ByteArray) (s : ByteArray) : Bool := l.any (sameB s)
theorem hasB_iff {l : List ByteArray} {s : ByteArray} : hasB l s = true ↔ s ∈ l := by
 unfold hasB
 rw [List.any_eq_true]
 constructor
 ·rintro ⟨x, hx, h⟩; rw [Wt.1 h]; exact hx
 intro h; exact ⟨s, h, Wt.2 rfl⟩
def findI {α : Type} (p : α → Bool) : List α → Nat → Int
 | [], _ => -1
 | x :: l, i => if p x = true then i else findI p l (i + 1)
theorem findI_lt {α : Type} (p : α → Bool) : ∀ (l : List α) (i : Nat), findI p l i < i + l.length
 | [], i => by simp [findI]; omega
 | x :: l, i => by
  rw [findI]
  split
  ·simp; omega
  have := findI_lt p l (i + 1); simp at this ⊢; omega
theorem findI_cases {α : Type} (p : α → Bool) : ∀ (l : List α) (i : Nat), findI p l i = -1 ∨ (i : Int) ≤ findI p l i
 | [], i => .inl rfl
 | x :: l, i => by
  rw [findI]
  split
  ·exact .inr (Int.le_refl _)
  rcases findI_cases p l (i + 1) with h | h
  ·exact .inl h
  right; omega
theorem Vq {α : Type} (p : α → Bool) : ∀ (l : List α) (i : Nat), 0 ≤ findI p l i → ∃ x, l[(findI p l i).toNat - i]? = some x ∧ p x = true ∧ i ≤ (findI p l i).toNat
 | [], i, h => by simp [findI] at h
 | x :: l, i, h => by
  rw [findI] at h ⊢
  split
  ·rename_i hp
   refine ⟨x, ?_, hp, by simp⟩
   simp
  rename_i hp
  rw [if_neg hp] at h
  obtain ⟨y, h1, h2, h3⟩ := Vq p l (i + 1) h
  refine ⟨y, ?_, h2, by omega⟩
  rw [show (findI p l (i + 1)).toNat - i = ((findI p l (i + 1)).toNat - (i + 1)) + 1 by omega]
  simpa using h1
structure PS where
 at_ : Nat
 lv : Int
 e : Int
 wh : Int
deriving DecidableEq
def nxt (L : List Tok) (p : PS) : Tok := if p.e ≠ 0 then tok0 0 else (L[p.at_]?).getD (tok0 0)
def failP (p : PS) (e wh : Int) : PS := if p.e = 0 then { p with e := e, wh := wh } else p
def isP (L : List Tok) (p : PS) (s : ByteArray) : Bool := decide (6 ≤ (nxt L p).k ∧ (nxt L p).t = s)
def stepP (p : PS) : PS := { p with at_ := p.at_ + 1 }
def takeP (L : List Tok) (p : PS) (kind : Int) (s : ByteArray) : Tok × PS :=
 if p.e ≠ 0 then (nxt L p, p)
 else if (kind < 6 ∧ (nxt L p).k ≠ kind) ∨ (6 ≤ kind ∧ ((nxt L p).k < 6 ∨ (nxt L p).t ≠ s)) then (tok0 0, failP p 110 (nxt L p).a)
 else (nxt L p, stepP p)
def deeperP (L : List Tok) (p : PS) : PS := if 300 < p.lv + 1 then failP { p with lv := p.lv + 1 } 111 (nxt L { p with lv := p.lv + 1 }).a else { p with lv := p.lv + 1 }
theorem Vr {L : List Tok} {p : PS} (h : (nxt L p).k ≠ 0) : p.e = 0 ∧ p.at_ < L.length := by
 unfold nxt at h
 by_cases q : p.e ≠ 0
 ·rw [if_pos q] at h; exact absurd rfl h
 rw [if_neg q] at h
 refine ⟨Classical.not_not.1 q, ?_⟩
 rcases Nat.lt_or_ge p.at_ L.length with q2 | q2
 ·exact q2
 rw [List.getElem?_eq_none q2] at h; exact absurd rfl h
def rowsT : List (List (List UInt8)) := [[[58, 61]], [[124, 124]], [[38, 38]], [[61, 61], [47, 61], [60], [60, 61], [62], [62, 61]], [[58, 58], [94]], [[43], [45]], [[42], [47], [37]]]
def lvl (op : List UInt8) : Nat := rowsT.findIdx (fun r => r.contains op) + 1
def sideN (l : Nat) : Nat := if l = 4 then 0 else if l < 6 then 2 else 1
open Go.RowKit
inductive Pa where
 | mk (k : Int) (s : ByteArray) (n : Int) (ks : List Pa) (p : Int)
mutual
inductive Ex where
 | mk (k : Int) (s : ByteArray) (n : Int) (t : Ty) (ks : List Ex) (al : List Al) (bs : List Bi) (p : Int)
inductive Al where
 | mk (q : Pa) (e : Ex)
inductive Bi where
 | mk (s : ByteArray) (e : Ex) (p : Int)
end
mutual
def Pa.cells : Pa → List AV
 | .mk k s n ks p => [.val (.int .i64 k), .val (.string s), .val (.int .i64 n), .seq 5 (Pa.cellss ks), .val (.int .i64 p)]
def Pa.cellss : List Pa → List (List AV)
 | [] => []
 | t :: ts => t.cells :: Pa.cellss ts
end
mutual
def Ex.cells : Ex → List AV
 | .mk k s n t ks al bs p => .val (.int .i64 k) :: .val (.string s) :: .val (.int .i64 n) :: (t.cells ++ [.seq 11 (Ex.cellss ks), .seq 16 (Al.cellss al), .seq 13 (Bi.cellss bs), .val (.int .i64 p)])
def Ex.cellss : List Ex → List (List AV)
 | [] => []
 | t :: ts => t.cells :: Ex.cellss ts
def Al.cells : Al → List AV
 | .mk q e => q.cells ++ e.cells
def Al.cellss : List Al → List (List AV)
 | [] => []
 | t :: ts => t.cells :: Al.cellss ts
def Bi.cells : Bi → List AV
 | .mk s e p => .val (.string s) :: (e.cells ++ [.val (.int .i64 p)])
def Bi.cellss : List Bi → List (List AV)
 | [] => []
 | t :: ts => t.cells :: Bi.cellss ts
end
theorem Pa.cellss_map : ∀ ts : List Pa, Pa.cellss ts = ts.map Pa.cells
 | [] => by simp [Pa.cellss]
 | t :: ts => by simp [Pa.cellss, Pa.cellss_map ts]
theorem Ex.cellss_map : ∀ ts : List Ex, Ex.cellss ts = ts.map Ex.cells
 | [] => by simp [Ex.cellss]
 | t :: ts => by simp [Ex.cellss, Ex.cellss_map ts]
theorem Al.cellss_map : ∀ ts : List Al, Al.cellss ts = ts.map Al.cells
 | [] => by simp [Al.cellss]
 | t :: ts => by simp [Al.cellss, Al.cellss_map ts]
theorem Bi.cellss_map : ∀ ts : List Bi, Bi.cellss ts = ts.map Bi.cells
 | [] => by simp [Bi.cellss]
 | t :: ts => by simp [Bi.cellss, Bi.cellss_map ts]
theorem Pa.cellss_len (ts : List Pa) : (Pa.cellss ts).length = ts.length := by rw [Pa.cellss_map]; simp
theorem Ex.cellss_len (ts : List Ex) : (Ex.cellss ts).length = ts.length := by rw [Ex.cellss_map]; simp
theorem Al.cellss_len (ts : List Al) : (Al.cellss ts).length = ts.length := by rw [Al.cellss_map]; simp
theorem Bi.cellss_len (ts : List Bi) : (Bi.cellss ts).length = ts.length := by rw [Bi.cellss_map]; simp
theorem Pa.cellss_get {ts : List Pa} {i : Nat} {t : Pa} (h : ts[i]? = some t) : (Pa.cellss ts)[i]? = some t.cells := by rw [Pa.cellss_map]; simp [h]
theorem Ex.cellss_get {ts : List Ex} {i : Nat} {t : Ex} (h : ts[i]? = some t) : (Ex.cellss ts)[i]? = some t.cells := by rw [Ex.cellss_map]; simp [h]
theorem Al.cellss_get {ts : List Al} {i : Nat} {t : Al} (h : ts[i]? = some t) : (Al.cellss ts)[i]? = some t.cells := by rw [Al.cellss_map]; simp [h]
theorem Bi.cellss_get {ts : List Bi} {i : Nat} {t : Bi} (h : ts[i]? = some t) : (Bi.cellss ts)[i]? = some t.cells := by rw [Bi.cellss_map]; simp [h]
def Al.e : Al → Ex | .mk _ e => e
def Al.q : Al → Pa | .mk q _ => q
def Bi.e : Bi → Ex | .mk _ e _ => e
def Bi.s : Bi → ByteArray | .mk s _ _ => s
theorem Pa.lt_kid {x : Pa} {k n p : Int} {s : ByteArray} {ks : List Pa} (h : x ∈ ks) : SizeOf.sizeOf x < SizeOf.sizeOf (Pa.mk k s n ks p) := by
 have := List.sizeOf_lt_of_mem h
 simp; omega
section
variable {x : Ex} {a : Al} {b : Bi} {k n p : Int} {s : ByteArray} {t : Ty} {ks : List Ex} {al : List Al} {bs : List Bi}
theorem Ex.lt_kid (h : x ∈ ks) : SizeOf.sizeOf x < SizeOf.sizeOf (Ex.mk k s n t ks al bs p) := by
 have := List.sizeOf_lt_of_mem h
 simp; omega
theorem Ex.lt_alt (h : a ∈ al) : SizeOf.sizeOf a < SizeOf.sizeOf (Ex.mk k s n t ks al bs p) := by
 have := List.sizeOf_lt_of_mem h
 simp; omega
theorem Ex.lt_bind (h : b ∈ bs) : SizeOf.sizeOf b < SizeOf.sizeOf (Ex.mk k s n t ks al bs p) := by
 have := List.sizeOf_lt_of_mem h
 simp; omega
theorem Al.lt_e (a : Al) : SizeOf.sizeOf a.e < SizeOf.sizeOf a := by cases a; simp [Al.e]; omega
theorem Bi.lt_e (a : Bi) : SizeOf.sizeOf a.e < SizeOf.sizeOf a := by cases a; simp [Bi.e]; omega
end
def Ex.parts : Ex → List Ex
 | .mk k _ _ _ ks al bs _ => (if k = 7 then [] else ks) ++ bs.map Bi.e ++ (if k = 7 then ks else []) ++ al.map Al.e
theorem Ex.lt_part {e x : Ex} (h : x ∈ e.parts) : SizeOf.sizeOf x < SizeOf.sizeOf e := by
 obtain ⟨k, s, n, t, ks, al, bs, p⟩ := e
 simp only [Ex.parts, List.mem_append, List.mem_map] at h
 rcases h with ((h | ⟨b, hb, rfl⟩) | h) | ⟨a, ha, rfl⟩
 ·split at h
  ·simp at h
  exact Ex.lt_kid h
 ·exact Nat.lt_trans (Bi.lt_e b) (Ex.lt_bind hb)
 ·split at h
  ·exact Ex.lt_kid h
  simp at h
 exact Nat.lt_trans (Al.lt_e a) (Ex.lt_alt ha)
def maxOf : List Nat → Nat
 | [] => 0
 | x :: xs => max x (maxOf xs)
def Ex.dp (e : Ex) : Nat := 1 + maxOf (e.parts.attach.map fun x => Ex.dp x.1)
termination_by SizeOf.sizeOf e
decreasing_by exact Ex.lt_part x.2
theorem sum_mem {l : List Nat} {x : Nat} (h : x ∈ l) : x ≤ l.sum := by
 induction l with
 | nil => simp at h
 | cons y l ih =>
  simp only [List.sum_cons]
  rcases List.mem_cons.1 h with rfl | h
  ·omega
  have := ih h; omega
theorem sum_take {l : List Nat} {i x : Nat} (h : l[i]? = some x) : (l.take (i + 1)).sum = (l.take i).sum + x := by
 rw [List.take_add_one, h]; simp
theorem sum_take_le (l : List Nat) (i : Nat) : (l.take i).sum ≤ l.sum := by
 have := congrArg List.sum (List.take_append_drop i l)
 rw [List.sum_append] at this; omega
theorem upto_map {α β : Type} (f : α → β) {xs ys : List α} {i : Nat} {x y : α} (h : Upto (xs.map f) (ys.map f) i) (hx : xs[i]? = some x) (hy : ys[i]? = some y) (e : f x = f y) : Upto (xs.map f) (ys.map f) (i + 1) :=
 h.succ (x := f x) (y := f y) (by simp [hx]) (by simp [hy]) e
theorem map_ne {α β : Type} (f : α → β) {xs ys : List α} {i : Nat} {x y : α} (hx : xs[i]? = some x) (hy : ys[i]? = some y) (e : ¬ f x = f y) : ¬ xs.map f = ys.map f := fun q => e (by
 have : (xs.map f)[i]? = (ys.map f)[i]? := by rw [q]
 simpa [hx, hy] using this)
theorem map_len_ne {α β : Type} (f : α → β) {xs ys : List α} (h : ¬ xs.length = ys.length) : ¬ xs.map f = ys.map f := fun q => h (by simpa using congrArg List.length q)
abbrev Txt := ByteArray
mutual
def Pa.names : Pa → List Txt
 | .mk k s _ ks _ => (if k = 2 then [s] else []) ++ Pa.namess ks
def Pa.namess : List Pa → List Txt
 | [] => []
 | t :: ts => t.names ++ Pa.namess ts
end
mutual
def Pa.size : Pa → Nat
 | .mk _ _ _ ks _ => 1 + Pa.sizes ks
def Pa.sizes : List Pa → Nat
 | [] => 0
 | t :: ts => t.size + Pa.sizes ts
end
theorem Pa.sizes_map : ∀ ts : List Pa, Pa.sizes ts = (ts.map Pa.size).sum
 | [] => by simp [Pa.sizes]
 | t :: ts => by simp [Pa.sizes, Pa.sizes_map ts]
theorem Pa.size_kid {x : Pa} {ks : List Pa} (h : x ∈ ks) : x.size ≤ Pa.sizes ks := by
 rw [Pa.sizes_map]; exact sum_mem (List.mem_map.2 ⟨x, h, rfl⟩)
theorem Pa.sizes_take {ts : List Pa} {i : Nat} {x : Pa} (h : ts[i]? = some x) : Pa.sizes (ts.take i) + x.size ≤ Pa.sizes ts := by
 have h1 : (ts.map Pa.size)[i]? = some x.size := by simp [h]
 have h2 := sum_take h1
 have h3 := sum_take_le (ts.map Pa.size) (i + 1)
 rw [Pa.sizes_map, Pa.sizes_map, List.map_take]; omega
mutual
def Ex.w : Ex → Nat
 | .mk _ _ _ _ ks al bs _ => 1 + Ex.ws ks + Al.ws al + Bi.ws bs
def Ex.ws : List Ex → Nat
 | [] => 0
 | t :: ts => t.w + Ex.ws ts
def Al.w : Al → Nat
 | .mk q e => q.size + e.w
def Al.ws : List Al → Nat
 | [] => 0
 | t :: ts => t.w + Al.ws ts
def Bi.w : Bi → Nat
 | .mk _ e _ => 1 + e.w
def Bi.ws : List Bi → Nat
 | [] => 0
 | t :: ts => t.w + Bi.ws ts
end
abbrev Bi.names (bs : List Bi) : List Txt := bs.map Bi.s
def Ty.kn : Ty → Nat | .mk _ _ _ ks => ks.length
def Pa.kn : Pa → Nat | .mk _ _ _ ks _ => ks.length
mutual
def Ex.cnt : Ex → Int → Int
 | .mk _ _ _ t ks al bs _, m => Al.cnts al m (Bi.cnts bs m (Ex.cnts ks m (1 + t.kn)))
def Ex.cnts : List Ex → Int → Int → Int
 | [], _, n => n
 | x :: xs, m, n => if n < m then Ex.cnts xs m (n + x.cnt (m - n)) else n
def Bi.cnt : Bi → Int → Int
 | .mk _ e _, m => 1 + e.cnt m
def Bi.cnts : List Bi → Int → Int → Int
 | [], _, n => n
 | x :: xs, m, n => if n < m then Bi.cnts xs m (n + x.cnt (m - n)) else n
def Al.cnt : Al → Int → Int
 | .mk q e, m => 1 + e.cnt m + q.kn
def Al.cnts : List Al → Int → Int → Int
 | [], _, n => n
 | x :: xs, m, n => if n < m then Al.cnts xs m (n + x.cnt (m - n)) else n
end
theorem Ex.cellss_app (a b : List Ex) : Ex.cellss (a ++ b) = Ex.cellss a ++ Ex.cellss b := by simp [Ex.cellss_map]
def I64 (x : Int) : Prop := -9223372036854775808 ≤ x ∧ x ≤ 9223372036854775807
theorem I64.of {x : Int} (h : IntKind.i64.min ≤ x ∧ x ≤ IntKind.i64.max) : I64 x := by
 have h1 : IntKind.i64.min = -9223372036854775808 := by decide
 have h2 : IntKind.i64.max = 9223372036854775807 := by decide
 rw [h1, h2] at h; exact h
inductive Pr where
 | mk (c : ByteArray) (t : Ty)
def Pr.cells : Pr → List AV
 | .mk c t => .val (.string c) :: t.cells
def Pr.c : Pr → ByteArray | .mk c _ => c
def Pr.t : Pr → Ty | .mk _ t => t
def Pr.cellss (l : List Pr) : List (List AV) := l.map Pr.cells
theorem Pr.cellss_map (l : List Pr) : Pr.cellss l = l.map Pr.cells := rfl
theorem Pr.cellss_len (l : List Pr) : (Pr.cellss l).length = l.length := by simp [Pr.cellss]
theorem Pr.cellss_get {l : List Pr} {i : Nat} {x : Pr} (h : l[i]? = some x) : (Pr.cellss l)[i]? = some x.cells := by simp [Pr.cellss, h]
theorem Pr.cells_len (x : Pr) : x.cells.length = 5 := by
 obtain ⟨xc, ⟨xtk, xts, xtn, xtl⟩⟩ := x
 rfl
inductive Cn where
 | mk (s : ByteArray) (ts : List Ty) (p : Int)
def Cn.cells : Cn → List AV
 | .mk s ts p => .val (.string s) :: .seq 4 (Ty.cellss ts) :: [.val (.int .i64 p)]
def Cn.s : Cn → ByteArray | .mk s _ _ => s
def Cn.ts : Cn → List Ty | .mk _ ts _ => ts
def Cn.p : Cn → Int | .mk _ _ p => p
def Cn.cellss (l : List Cn) : List (List AV) := l.map Cn.cells
theorem Cn.cellss_map (l : List Cn) : Cn.cellss l = l.map Cn.cells := rfl
theorem Cn.cellss_len (l : List Cn) : (Cn.cellss l).length = l.length := by simp [Cn.cellss]
theorem Cn.cellss_get {l : List Cn} {i : Nat} {x : Cn} (h : l[i]? = some x) : (Cn.cellss l)[i]? = some x.cells := by simp [Cn.cellss, h]
theorem Cn.cells_len (x : Cn) : x.cells.length = 3 := by
 obtain ⟨xs, xts, xp⟩ := x
 rfl
inductive Da where
 | mk (s : ByteArray) (ps : List ByteArray) (cs : List Cn) (dv : List ByteArray) (p : Int)
def Da.cells : Da → List AV
 | .mk s ps cs dv p => .val (.string s) :: .seq 1 (strs ps) :: .seq 3 (Cn.cellss cs) :: .seq 1 (strs dv) :: [.val (.int .i64 p)]
def Da.s : Da → ByteArray | .mk s _ _ _ _ => s
def Da.ps : Da → List ByteArray | .mk _ ps _ _ _ => ps
def Da.cs : Da → List Cn | .mk _ _ cs _ _ => cs
def Da.dv : Da → List ByteArray | .mk _ _ _ dv _ => dv
def Da.p : Da → Int | .mk _ _ _ _ p => p
def Da.cellss (l : List Da) : List (List AV) := l.map Da.cells
theorem Da.cellss_map (l : List Da) : Da.cellss l = l.map Da.cells := rfl
theorem Da.cellss_len (l : List Da) : (Da.cellss l).length = l.length := by simp [Da.cellss]
theorem Da.cellss_get {l : List Da} {i : Nat} {x : Da} (h : l[i]? = some x) : (Da.cellss l)[i]? = some x.cells := by simp [Da.cellss, h]
theorem Da.cells_len (x : Da) : x.cells.length = 5 := by
 obtain ⟨xs, xps, xcs, xdv, xp⟩ := x
 rfl
inductive Me where
 | mk (s : ByteArray) (t : Ty) (p : Int)
def Me.cells : Me → List AV
 | .mk s t p => .val (.string s) :: t.cells ++ ([.val (.int .i64 p)])
def Me.s : Me → ByteArray | .mk s _ _ => s
def Me.t : Me → Ty | .mk _ t _ => t
def Me.p : Me → Int | .mk _ _ p => p
def Me.cellss (l : List Me) : List (List AV) := l.map Me.cells
theorem Me.cellss_map (l : List Me) : Me.cellss l = l.map Me.cells := rfl
theorem Me.cellss_len (l : List Me) : (Me.cellss l).length = l.length := by simp [Me.cellss]
theorem Me.cellss_get {l : List Me} {i : Nat} {x : Me} (h : l[i]? = some x) : (Me.cellss l)[i]? = some x.cells := by simp [Me.cellss, h]
theorem Me.cells_len (x : Me) : x.cells.length = 6 := by
 obtain ⟨xs, ⟨xtk, xts, xtn, xtl⟩, xp⟩ := x
 rfl
inductive Cl where
 | mk (s : ByteArray) (v : ByteArray) (su : List ByteArray) (ms : List Me) (ds : List Bi) (p : Int)
def Cl.cells : Cl → List AV
 | .mk s v su ms ds p => .val (.string s) :: .val (.string v) :: .seq 1 (strs su) :: .seq 6 (Me.cellss ms) :: .seq 13 (Bi.cellss ds) :: [.val (.int .i64 p)]
def Cl.s : Cl → ByteArray | .mk s _ _ _ _ _ => s
def Cl.v : Cl → ByteArray | .mk _ v _ _ _ _ => v
def Cl.su : Cl → List ByteArray | .mk _ _ su _ _ _ => su
def Cl.ms : Cl → List Me | .mk _ _ _ ms _ _ => ms
def Cl.ds : Cl → List Bi | .mk _ _ _ _ ds _ => ds
def Cl.p : Cl → Int | .mk _ _ _ _ _ p => p
def Cl.cellss (l : List Cl) : List (List AV) := l.map Cl.cells
theorem Cl.cellss_map (l : List Cl) : Cl.cellss l = l.map Cl.cells := rfl
theorem Cl.cellss_len (l : List Cl) : (Cl.cellss l).length = l.length := by simp [Cl.cellss]
theorem Cl.cellss_get {l : List Cl} {i : Nat} {x : Cl} (h : l[i]? = some x) : (Cl.cellss l)[i]? = some x.cells := by simp [Cl.cellss, h]
theorem Cl.cells_len (x : Cl) : x.cells.length = 6 := by
 obtain ⟨xs, xv, xsu, xms, xds, xp⟩ := x
 rfl
inductive In where
 | mk (c : ByteArray) (hd : Ty) (cx : List Pr) (bs : List Bi) (p : Int)
def In.cells : In → List AV
 | .mk c hd cx bs p => .val (.string c) :: hd.cells ++ (.seq 5 (Pr.cellss cx) :: .seq 13 (Bi.cellss bs) :: [.val (.int .i64 p)])
def In.c : In → ByteArray | .mk c _ _ _ _ => c
def In.hd : In → Ty | .mk _ hd _ _ _ => hd
def In.cx : In → List Pr | .mk _ _ cx _ _ => cx
def In.bs : In → List Bi | .mk _ _ _ bs _ => bs
def In.p : In → Int | .mk _ _ _ _ p => p
def In.cellss (l : List In) : List (List AV) := l.map In.cells
theorem In.cellss_map (l : List In) : In.cellss l = l.map In.cells := rfl
theorem In.cellss_len (l : List In) : (In.cellss l).length = l.length := by simp [In.cellss]
theorem In.cellss_get {l : List In} {i : Nat} {x : In} (h : l[i]? = some x) : (In.cellss l)[i]? = some x.cells := by simp [In.cellss, h]
theorem In.cells_len (x : In) : x.cells.length = 8 := by
 obtain ⟨xc, ⟨xhdk, xhds, xhdn, xhdl⟩, xcx, xbs, xp⟩ := x
 rfl
inductive Pg where
 | mk (da : List Da) (cl : List Cl) (ins : List In) (bs : List Bi)
def Pg.cells : Pg → List AV
 | .mk da cl ins bs => .seq 5 (Da.cellss da) :: .seq 6 (Cl.cellss cl) :: .seq 8 (In.cellss ins) :: [.seq 13 (Bi.cellss bs)]
def Pg.da : Pg → List Da | .mk da _ _ _ => da
def Pg.cl : Pg → List Cl | .mk _ cl _ _ => cl
def Pg.ins : Pg → List In | .mk _ _ ins _ => ins
def Pg.bs : Pg → List Bi | .mk _ _ _ bs => bs
def Pg.cellss (l : List Pg) : List (List AV) := l.map Pg.cells
theorem Pg.cellss_map (l : List Pg) : Pg.cellss l = l.map Pg.cells := rfl
theorem Pg.cellss_len (l : List Pg) : (Pg.cellss l).length = l.length := by simp [Pg.cellss]
theorem Pg.cellss_get {l : List Pg} {i : Nat} {x : Pg} (h : l[i]? = some x) : (Pg.cellss l)[i]? = some x.cells := by simp [Pg.cellss, h]
theorem Pg.cells_len (x : Pg) : x.cells.length = 4 := by
 obtain ⟨xda, xcl, xins, xbs⟩ := x
 rfl
inductive En where
 | mk (da : List Da) (cl : List Cl) (ins : List In)
def En.cells : En → List AV
 | .mk da cl ins => .seq 5 (Da.cellss da) :: .seq 6 (Cl.cellss cl) :: [.seq 8 (In.cellss ins)]
def En.da : En → List Da | .mk da _ _ => da
def En.cl : En → List Cl | .mk _ cl _ => cl
def En.ins : En → List In | .mk _ _ ins => ins
def En.cellss (l : List En) : List (List AV) := l.map En.cells
theorem En.cellss_map (l : List En) : En.cellss l = l.map En.cells := rfl
theorem En.cellss_len (l : List En) : (En.cellss l).length = l.length := by simp [En.cellss]
theorem En.cellss_get {l : List En} {i : Nat} {x : En} (h : l[i]? = some x) : (En.cellss l)[i]? = some x.cells := by simp [En.cellss, h]
theorem En.cells_len (x : En) : x.cells.length = 3 := by
 obtain ⟨xda, xcl, xins⟩ := x
 rfl
end Go.Proofs.YtknodnfbaofngaaGreat
namespace Go.Proofs.YtknodnfbaofngaaGreat
abbrev kE : ByteArray := ⟨#[]⟩
abbrev kLP : ByteArray := ⟨#[40]⟩
abbrev kRP : ByteArray := ⟨#[41]⟩
abbrev kComma : ByteArray := ⟨#[44]⟩
abbrev kSemi : ByteArray := ⟨#[59]⟩
abbrev kBack : ByteArray := ⟨#[92]⟩
abbrev kUn : ByteArray := ⟨#[95]⟩
abbrev kEq : ByteArray := ⟨#[61]⟩
abbrev kArrow : ByteArray := ⟨#[45, 62]⟩
abbrev kBar : ByteArray := ⟨#[124]⟩
abbrev kColon : ByteArray := ⟨#[58]⟩
abbrev kData : ByteArray := ⟨#[100, 97, 116, 97]⟩
abbrev kClass : ByteArray := ⟨#[99, 108, 97, 115, 115]⟩
abbrev kInst : ByteArray := ⟨#[105, 110, 115, 116, 97, 110, 99, 101]⟩
abbrev kFrom : ByteArray := ⟨#[102, 114, 111, 109]⟩
abbrev kWhere : ByteArray := ⟨#[119, 104, 101, 114, 101]⟩
abbrev kEnd : ByteArray := ⟨#[101, 110, 100]⟩
abbrev kDeriv : ByteArray := ⟨#[100, 101, 114, 105, 118, 105, 110, 103]⟩
abbrev kDef : ByteArray := ⟨#[100, 101, 102]⟩
abbrev kLet : ByteArray := ⟨#[108, 101, 116]⟩
abbrev kRec : ByteArray := ⟨#[114, 101, 99]⟩
abbrev kAnd : ByteArray := ⟨#[97, 110, 100]⟩
abbrev kIn : ByteArray := ⟨#[105, 110]⟩
abbrev kCase : ByteArray := ⟨#[99, 97, 115, 101]⟩
abbrev kOf : ByteArray := ⟨#[111, 102]⟩
abbrev kIf : ByteArray := ⟨#[105, 102]⟩
abbrev kThen : ByteArray := ⟨#[116, 104, 101, 110]⟩
abbrev kElse : ByteArray := ⟨#[101, 108, 115, 101]⟩
abbrev kUnit : ByteArray := ⟨#[85, 110, 105, 116]⟩
abbrev kAA : ByteArray := ⟨#[38, 38]⟩
abbrev kOO : ByteArray := ⟨#[124, 124]⟩
def ty0 : Ty := .mk 0 kE 0 []
def pa0 : Pa := .mk 0 kE 0 [] 0
def ex0 : Ex := .mk 0 kE 0 ty0 [] [] [] 0
def decP (p : PS) : PS := { p with lv := p.lv - 1 }
section
variable (L : List Tok)
def nameP (p : PS) : Tok × PS :=
 if isP L p kLP = true then ((takeP L (stepP p) 5 kE).1, (takeP L (takeP L (stepP p) 5 kE).2 7 kRP).2) else takeP L p 1 kE
def uppersL : Nat → PS → List ByteArray → List ByteArray × PS
 | 0, p, acc => (acc, p)
 | f + 1, p, acc => if isP L p kComma = true then uppersL f (takeP L (stepP p) 2 kE).2 (acc ++ [(takeP L (stepP p) 2 kE).1.t]) else (acc, p)
def uppersP (p : PS) : List ByteArray × PS := uppersL L (L.length + 1) (takeP L p 2 kE).2 [(takeP L p 2 kE).1.t]
def startsP (what : Int) (p : PS) : Prop :=
 (nxt L p).k = 1 ∨ (nxt L p).k = 2 ∨ isP L p kLP = true ∨ (1 ≤ what ∧ (nxt L p).k = 3) ∨ (what = 1 ∧ isP L p kUn = true) ∨ (what = 2 ∧ ((nxt L p).k = 4 ∨ isP L p kCase = true))
instance (what : Int) (p : PS) : Decidable (startsP L what p) := by unfold startsP; infer_instance
def atypeG (T : PS → Ty × PS) (p : PS) : Ty × PS :=
 if (nxt L p).k = 2 then (.mk 3 (nxt L p).t 0 [], stepP p)
 else if (nxt L p).k = 1 then (.mk 1 (nxt L p).t 0 [], stepP p)
 else if isP L (takeP L p 7 kLP).2 kRP = true then (.mk 3 kUnit 0 [], stepP (takeP L p 7 kLP).2)
 else ((T (takeP L p 7 kLP).2).1, (takeP L (T (takeP L p 7 kLP).2).2 7 kRP).2)
def typesL (T : PS → Ty × PS) : Nat → PS → List Ty → List Ty × PS
 | 0, p, acc => (acc, p)
 | f + 1, p, acc => if startsP L 0 p then typesL T f (atypeG L T p).2 (acc ++ [(atypeG L T p).1]) else (acc, p)
def typeH (T : PS → Ty × PS) (q : PS) : Ty × PS :=
 if (nxt L q).k = 2 then (.mk 3 (nxt L q).t 0 (typesL L T (L.length + 1) (stepP q) []).1, (typesL L T (L.length + 1) (stepP q) []).2)
 else atypeG L T q
def typeR (T : PS → Ty × PS) (x : Ty × PS) : Ty × PS :=
 if isP L x.2 kArrow = true then (.mk 3 kArrow 0 [x.1, (T (stepP x.2)).1], decP (T (stepP x.2)).2) else (x.1, decP x.2)
def typeF : Nat → PS → Ty × PS
 | 0, p => (ty0, p)
 | n + 1, p => if p.e ≠ 0 then (ty0, p) else typeR L (typeF n) (typeH L (typeF n) (deeperP L p))
def typeP (p : PS) : Ty × PS := typeF L 302 p
def apatG (T : PS → Pa × PS) (p : PS) : Pa × PS :=
 if (nxt L p).k = 2 then (.mk 3 (nxt L p).t 0 [] (nxt L p).a, stepP p)
 else if (nxt L p).k = 1 then (.mk 2 (nxt L p).t 0 [] (nxt L p).a, stepP p)
 else if (nxt L p).k = 3 then (.mk 4 kE (nxt L p).n [] (nxt L p).a, stepP p)
 else if isP L p kUn = true then (.mk 1 kE 0 [] (nxt L p).a, stepP p)
 else if isP L (takeP L p 7 kLP).2 kRP = true then (.mk 3 kUnit 0 [] (nxt L p).a, stepP (takeP L p 7 kLP).2)
 else ((T (takeP L p 7 kLP).2).1, (takeP L (T (takeP L p 7 kLP).2).2 7 kRP).2)
def patsL (T : PS → Pa × PS) : Nat → PS → List Pa → List Pa × PS
 | 0, p, acc => (acc, p)
 | f + 1, p, acc => if startsP L 1 p then patsL T f (apatG L T p).2 (acc ++ [(apatG L T p).1]) else (acc, p)
def patF : Nat → PS → Pa × PS
 | 0, p => (pa0, p)
 | n + 1, p => if p.e ≠ 0 then (pa0, p)
  else if (nxt L (deeperP L p)).k = 2 then
   (.mk 3 (nxt L (deeperP L p)).t 0 (patsL L (patF n) (L.length + 1) (stepP (deeperP L p)) []).1 (nxt L (deeperP L p)).a, decP (patsL L (patF n) (L.length + 1) (stepP (deeperP L p)) []).2)
  else ((apatG L (patF n) (deeperP L p)).1, decP (apatG L (patF n) (deeperP L p)).2)
def patP (p : PS) : Pa × PS := patF L 302 p
end
/- operators -/
def lvT (ops : List Tok) (i : Nat) : Nat := lvl ((ops[i]?).getD (tok0 0)).t.toList
def rootB (ops : List Tok) : Nat → Nat → Nat → Nat
 | 0, a, _ => a
 | f + 1, a, i => rootB ops f (if lvT ops i < lvT ops a ∨ (lvT ops i = lvT ops a ∧ sideN (lvT ops a) = 1) then i else a) (i + 1)
def opE (k : Int) (ks : List Ex) (a : Int) : Ex := .mk k kE 0 ty0 ks [] [] a
def namE (k : Int) (s : ByteArray) (a : Int) : Ex := .mk k s 0 ty0 [] [] [] a
def binE (op : Tok) (x y : Ex) : Ex :=
 if op.t = kAA then opE 10 [x, y] op.a else if op.t = kOO then opE 11 [x, y] op.a
 else opE 5 [opE 5 [namE 3 op.t op.a, x] op.a, y] op.a
def buildF (l : List Ex) (ops : List Tok) : Nat → Nat → Nat → Ex
 | 0, a, _ => (l[a]?).getD ex0
 | d + 1, a, b => if a = b then (l[a]?).getD ex0
  else binE ((ops[rootB ops (b - (a + 1)) a (a + 1)]?).getD (tok0 0)) (buildF l ops d a (rootB ops (b - (a + 1)) a (a + 1))) (buildF l ops d (rootB ops (b - (a + 1)) a (a + 1) + 1) b)
def backL (lv : Nat → Nat) : Nat → Bool
 | 0 => false
 | i + 1 => if 4 < lv i then backL lv i else decide (lv i = 4)
def clashL (lv : Nat → Nat) : Nat → Nat → Int
 | 0, _ => -1
 | f + 1, k => if lv k = 4 ∧ backL lv k = true then k else clashL lv f (k + 1)
def clashP (ops : List Tok) : Int := clashL (lvT ops) ops.length 0
section
variable (L : List Tok)
def bindG (E : PS → Ex × PS) (p : PS) : Bi × PS :=
 (.mk (nameP L p).1.t (E (takeP L (nameP L p).2 7 kEq).2).1 (nameP L p).1.a, (E (takeP L (nameP L p).2 7 kEq).2).2)
def bindsL (E : PS → Ex × PS) : Nat → PS → List Bi → List Bi × PS
 | 0, p, acc => (acc, p)
 | f + 1, p, acc => if isP L p kAnd = true then bindsL E f (bindG L E (stepP p)).2 (acc ++ [(bindG L E (stepP p)).1]) else (acc, p)
def lambdaG (E : PS → Ex × PS) : Nat → PS → Int → Ex × PS
 | 0, p, _ => (ex0, p)
 | f + 1, p, a =>
  if (nxt L (takeP L p 1 kE).2).k = 1 then
   (.mk 6 (takeP L p 1 kE).1.t 0 ty0 [(lambdaG E f (takeP L p 1 kE).2 (nxt L (takeP L p 1 kE).2).a).1] [] [] a, (lambdaG E f (takeP L p 1 kE).2 (nxt L (takeP L p 1 kE).2).a).2)
  else (.mk 6 (takeP L p 1 kE).1.t 0 ty0 [(E (takeP L (takeP L p 1 kE).2 7 kArrow).2).1] [] [] a, (E (takeP L (takeP L p 1 kE).2 7 kArrow).2).2)
def altG (E : PS → Ex × PS) (p : PS) : Al × PS :=
 (.mk (patP L p).1 (E (takeP L (patP L p).2 7 kArrow).2).1, (E (takeP L (patP L p).2 7 kArrow).2).2)
def altsL (E : PS → Ex × PS) : Nat → PS → List Al → List Al × PS
 | 0, p, acc => (acc, p)
 | f + 1, p, acc => if p.e ≠ 0 then (acc, p)
  else if isP L (altG L E p).2 kBar = true then altsL E f (stepP (altG L E p).2) (acc ++ [(altG L E p).1])
  else (acc ++ [(altG L E p).1], (altG L E p).2)
def caseG (E : PS → Ex × PS) (a : Int) (p : PS) : Ex × PS :=
 let y := altsL L E (L.length + 1) (takeP L (E p).2 6 kOf).2 []
 (.mk 8 kE 0 ty0 [(E p).1] y.1 [] a, (takeP L y.2 6 kEnd).2)
def annG (a : Int) (x : Ex × PS) : Ex × PS :=
 if isP L x.2 kColon = true then (.mk 12 kE 0 (typeP L (stepP x.2)).1 [x.1] [] [] a, (takeP L (typeP L (stepP x.2)).2 7 kRP).2)
 else (x.1, (takeP L x.2 7 kRP).2)
def atomG (E : PS → Ex × PS) (p : PS) : Ex × PS :=
 if (nxt L p).k = 1 then (namE 3 (nxt L p).t (nxt L p).a, stepP p)
 else if (nxt L p).k = 2 then (namE 4 (nxt L p).t (nxt L p).a, stepP p)
 else if (nxt L p).k = 3 then (.mk 1 kE (nxt L p).n ty0 [] [] [] (nxt L p).a, stepP p)
 else if (nxt L p).k = 4 then (namE 2 (nxt L p).t (nxt L p).a, stepP p)
 else if isP L p kCase = true then caseG L E (nxt L p).a (stepP p)
 else if isP L (takeP L p 7 kLP).2 kRP = true then (namE 4 kUnit (nxt L p).a, stepP (takeP L p 7 kLP).2)
 else if (nxt L (takeP L p 7 kLP).2).k = 5 then
  (namE 3 (takeP L (takeP L p 7 kLP).2 5 kE).1.t (nxt L p).a, (takeP L (takeP L (takeP L p 7 kLP).2 5 kE).2 7 kRP).2)
 else annG L (nxt L p).a (E (takeP L p 7 kLP).2)
def appsL (E : PS → Ex × PS) (a : Int) : Nat → PS → Ex → Ex × PS
 | 0, p, x => (x, p)
 | f + 1, p, x => if startsP L 2 p then appsL E a f (atomG L E p).2 (opE 5 [x, (atomG L E p).1] a) else (x, p)
def letG (E : PS → Ex × PS) (a n : Int) (p : PS) : Ex × PS :=
 let bs := bindsL L E (L.length + 1) (bindG L E p).2 [(bindG L E p).1]
 (.mk 7 kE n ty0 [(E (takeP L bs.2 6 kIn).2).1] [] bs.1 a, (E (takeP L bs.2 6 kIn).2).2)
def ifG (E : PS → Ex × PS) (a : Int) (p : PS) : Ex × PS :=
 let y := E (takeP L (E p).2 6 kThen).2
 let z := E (takeP L y.2 6 kElse).2
 (opE 9 [(E p).1, y.1, z.1] a, z.2)
def operandG (E : PS → Ex × PS) (p : PS) : Ex × PS :=
 if isP L p kBack = true then lambdaG L E (L.length + 1) (stepP p) (nxt L p).a
 else if isP L p kLet = true then
  if isP L (stepP p) kRec = true then letG L E (nxt L p).a 1 (stepP (stepP p)) else letG L E (nxt L p).a 0 (stepP p)
 else if isP L p kIf = true then ifG L E (nxt L p).a (stepP p)
 else appsL L E (nxt L p).a (L.length + 1) (atomG L E p).2 (atomG L E p).1
def opsL (E : PS → Ex × PS) : Nat → PS → List Ex → List Tok → (List Ex × List Tok) × PS
 | 0, p, l, o => ((l, o), p)
 | f + 1, p, l, o => if (nxt L p).k = 5 then opsL E f (operandG L E (takeP L p 5 kE).2).2 (l ++ [(operandG L E (takeP L p 5 kE).2).1]) (o ++ [(takeP L p 5 kE).1]) else ((l, o), p)
def joinE (y : (List Ex × List Tok) × PS) : Ex × PS :=
 if y.2.e ≠ 0 then (ex0, y.2)
 else if 0 ≤ clashP y.1.2 then (ex0, failP y.2 112 ((y.1.2[(clashP y.1.2).toNat]?).getD (tok0 0)).a)
 else (buildF y.1.1 y.1.2 y.1.2.length 0 y.1.2.length, decP y.2)
def expF : Nat → PS → Ex × PS
 | 0, p => (ex0, p)
 | n + 1, p => if p.e ≠ 0 then (ex0, p)
  else joinE (opsL L (expF n) (L.length + 1) (operandG L (expF n) (deeperP L p)).2 [(operandG L (expF n) (deeperP L p)).1] [])
def expP (p : PS) : Ex × PS := expF L 302 p
def bindP (p : PS) : Bi × PS := bindG L (expP L) p
/- declarations -/
def paramsL : Nat → PS → List ByteArray → List ByteArray × PS
 | 0, p, acc => (acc, p)
 | f + 1, p, acc => if (nxt L p).k = 1 then paramsL f (takeP L p 1 kE).2 (acc ++ [(takeP L p 1 kE).1.t]) else (acc, p)
def conP (p : PS) : Cn × PS :=
 let a := typesL L (typeP L) (L.length + 1) (takeP L p 2 kE).2 []
 (.mk (takeP L p 2 kE).1.t a.1 (takeP L p 2 kE).1.a, a.2)
def consL : Nat → PS → List Cn → List Cn × PS
 | 0, p, acc => (acc, p)
 | f + 1, p, acc => if p.e ≠ 0 then (acc, p)
  else if isP L (conP L p).2 kBar = true then consL f (stepP (conP L p).2) (acc ++ [(conP L p).1])
  else (acc ++ [(conP L p).1], (conP L p).2)
def derivP (p : PS) : List ByteArray × PS :=
 if isP L p kDeriv = true then ((uppersP L (takeP L (stepP p) 7 kLP).2).1, (takeP L (uppersP L (takeP L (stepP p) 7 kLP).2).2 7 kRP).2) else ([], p)
def dataP (p : PS) : Da × PS :=
 let a := paramsL L (L.length + 1) (takeP L p 2 kE).2 []
 let c := consL L (L.length + 1) (takeP L a.2 7 kEq).2 []
 (.mk (takeP L p 2 kE).1.t a.1 c.1 (derivP L c.2).1 (takeP L p 2 kE).1.a, (derivP L c.2).2)
def clsL : Nat → PS → List Me → List Bi → (List Me × List Bi) × PS
 | 0, p, ms, ds => ((ms, ds), p)
 | f + 1, p, ms, ds => if p.e ≠ 0 then ((ms, ds), p)
  else if isP L p kEnd = true then ((ms, ds), stepP p)
  else if isP L p kDef = true then clsL f (takeP L (bindP L (stepP p)).2 7 kSemi).2 ms (ds ++ [(bindP L (stepP p)).1])
  else clsL f (takeP L (typeP L (takeP L (nameP L p).2 7 kColon).2).2 7 kSemi).2 (ms ++ [.mk (nameP L p).1.t (typeP L (takeP L (nameP L p).2 7 kColon).2).1 (nameP L p).1.a]) ds
def supersP (p : PS) : List ByteArray × PS := if isP L p kFrom = true then uppersP L (stepP p) else ([], p)
def classP (p : PS) : Cl × PS :=
 let s := supersP L (takeP L (takeP L p 2 kE).2 1 kE).2
 let r := clsL L (L.length + 1) (takeP L s.2 6 kWhere).2 [] []
 (.mk (takeP L p 2 kE).1.t (takeP L (takeP L p 2 kE).2 1 kE).1.t s.1 r.1.1 r.1.2 (takeP L p 2 kE).1.a, r.2)
def predP (p : PS) : Pr × PS :=
 (.mk (takeP L p 2 kE).1.t (.mk 1 (takeP L (takeP L p 2 kE).2 1 kE).1.t 0 []), (takeP L (takeP L p 2 kE).2 1 kE).2)
def ctxL : Nat → PS → List Pr → List Pr × PS
 | 0, p, acc => (acc, p)
 | f + 1, p, acc => if p.e ≠ 0 then (acc, p)
  else if isP L (predP L p).2 kComma = true then ctxL f (stepP (predP L p).2) (acc ++ [(predP L p).1])
  else (acc ++ [(predP L p).1], (predP L p).2)
def ctxP (p : PS) : List Pr × PS := if isP L p kFrom = true then ctxL L (L.length + 1) (stepP p) [] else ([], p)
def insL : Nat → PS → List Bi → List Bi × PS
 | 0, p, bs => (bs, p)
 | f + 1, p, bs => if p.e ≠ 0 then (bs, p)
  else if isP L p kEnd = true then (bs, stepP p)
  else insL f (takeP L (bindP L (takeP L p 6 kDef).2).2 7 kSemi).2 (bs ++ [(bindP L (takeP L p 6 kDef).2).1])
def instP (p : PS) : In × PS :=
 let h := atypeG L (typeP L) (takeP L p 2 kE).2
 let c := ctxP L h.2
 let b := insL L (L.length + 1) (takeP L c.2 6 kWhere).2 []
 (.mk (takeP L p 2 kE).1.t h.1 c.1 b.1 (takeP L p 2 kE).1.a, b.2)
def declP (p : PS) (x : Pg) : Pg × PS :=
 if isP L p kData = true then (.mk (x.da ++ [(dataP L (stepP p)).1]) x.cl x.ins x.bs, (dataP L (stepP p)).2)
 else if isP L p kClass = true then (.mk x.da (x.cl ++ [(classP L (stepP p)).1]) x.ins x.bs, (classP L (stepP p)).2)
 else if isP L p kInst = true then (.mk x.da x.cl (x.ins ++ [(instP L (stepP p)).1]) x.bs, (instP L (stepP p)).2)
 else (.mk x.da x.cl x.ins (x.bs ++ [(bindP L (takeP L p 6 kDef).2).1]), (bindP L (takeP L p 6 kDef).2).2)
def progL : Nat → PS → Pg → Pg × PS
 | 0, p, x => (x, p)
 | f + 1, p, x => if p.e ≠ 0 ∨ (nxt L p).k = 0 then (x, p)
  else progL f (takeP L (declP L p x).2 7 kSemi).2 (declP L p x).1
end
def pg0 : Pg := .mk [] [] [] []
def beginP (s : List Tok × Int × Int) : PS := if s.2.1 ≠ 0 then failP ⟨0, 0, 0, 0⟩ s.2.1 s.2.2 else ⟨0, 0, 0, 0⟩
def progT (src : ByteArray) : Pg × Int × Int :=
 let r := progL (scanT src).1 ((scanT src).1.length + 1) (beginP (scanT src)) pg0
 if r.2.e ≠ 0 then (pg0, r.2.e, r.2.wh) else (r.1, 0, 0)
abbrev kIntT : ByteArray := ⟨#[73, 110, 116]⟩
abbrev kStrT : ByteArray := ⟨#[83, 116, 114, 105, 110, 103]⟩
abbrev kRefT : ByteArray := ⟨#[82, 101, 102]⟩
def baseB (s : ByteArray) : Bool := sameB s kIntT || sameB s kStrT || sameB s kRefT || sameB s kArrow
def arityD (s : ByteArray) : List Da → Int
 | [] => -1
 | d :: l => if sameB d.s s = true then d.ps.length else arityD s l
def arityR (v : En) (s : ByteArray) : Int :=
 if sameB s kIntT = true ∨ sameB s kStrT = true then 0 else if sameB s kRefT = true then 1 else if sameB s kArrow = true then 2 else arityD s v.da
def headR0 (v : En) (vars : List ByteArray) (k : Int) (s : ByteArray) (n : Nat) : Int :=
 if k = 1 then (if hasB vars s = true then 0 else 123)
 else if k = 3 then (if arityR v s < 0 then 121 else if arityR v s ≠ n then 122 else 0)
 else 123
mutual
def rightR (v : En) (vars : List ByteArray) : Ty → Int
 | .mk k s _ ks => if headR0 v vars k s ks.length ≠ 0 then headR0 v vars k s ks.length else rightsR v vars ks
def rightsR (v : En) (vars : List ByteArray) : List Ty → Int
 | [] => 0
 | t :: l => if rightR v vars t ≠ 0 then rightR v vars t else rightsR v vars l
end
def classI (v : En) (s : ByteArray) : Int := findI (fun c => sameB c.s s) v.cl 0
def instI (v : En) (c s : ByteArray) : Int := findI (fun (x : In) => sameB x.c c && sameB x.hd.name s) v.ins 0
def methI (s : ByteArray) : List Cl → Nat → Int × Int
 | [], _ => (-1, -1)
 | c :: l, i => if 0 ≤ findI (fun (m : Me) => sameB m.s s) c.ms 0 then (i, findI (fun (m : Me) => sameB m.s s) c.ms 0) else methI s l (i + 1)
/- what is above a class -/
def supersOf (v : En) (s : ByteArray) : List ByteArray := ((v.cl[(classI v s).toNat]?).map Cl.su).getD []
def overL (O : ByteArray → List ByteArray → List ByteArray) : List ByteArray → List ByteArray → List ByteArray
 | [], met => met
 | s :: l, met => if hasB met s = true then overL O l met else overL O l (O s (met ++ [s]))
def overF (v : En) : Nat → ByteArray → List ByteArray → List ByteArray
 | 0, _, met => met
 | n + 1, c, met => if classI v c < 0 then met else overL (overF v n) (supersOf v c) met
def allSup (v : En) : List ByteArray := v.cl.flatMap Cl.su
def aboveR (v : En) (c : ByteArray) : List ByteArray := overF v ((allSup v).length + 1) c []
/- data -/
abbrev Flt := Int × Int
def f0 : Flt := (0, 0)
def datas1 : List ByteArray → List Da → Flt
 | _, [] => f0
 | pre, d :: l => if baseB d.s = true then (120, d.p) else if hasB pre d.s = true then (120, d.p) else datas1 (pre ++ [d.s]) l
def dupB : List ByteArray → List ByteArray → Bool
 | _, [] => false
 | pre, x :: l => if hasB pre x = true then true else dupB (pre ++ [x]) l
def consR (v : En) (ps : List ByteArray) : List Cn → List ByteArray → Flt × List ByteArray
 | [], met => (f0, met)
 | c :: l, met => if hasB met c.s = true then ((120, c.p), met)
  else if 60 < c.ts.length then ((3, c.p), met ++ [c.s])
  else if rightsR v ps c.ts ≠ 0 then ((rightsR v ps c.ts, c.p), met ++ [c.s])
  else consR v ps l (met ++ [c.s])
def datas2 (v : En) : List Da → List ByteArray → Flt
 | [], _ => f0
 | d :: l, met => if dupB [] d.ps = true then (120, d.p)
  else if (consR v d.ps d.cs met).1.1 ≠ 0 then (consR v d.ps d.cs met).1
  else datas2 v l (consR v d.ps d.cs met).2
def datasR (v : En) : Flt := if (datas1 [] v.da).1 ≠ 0 then datas1 [] v.da else datas2 v v.da []
/- binds -/
def bndR (ns : List ByteArray) : List ByteArray → List Bi → Flt
 | _, [] => f0
 | pre, .mk s (.mk k _ _ _ _ _ _ _) p :: l => if hasB ns s = false then (121, p) else if hasB pre s = true then (120, p) else if k ≠ 6 then (130, p) else bndR ns (pre ++ [s]) l
/- classes -/
def classes1 : List ByteArray → List Cl → Flt
 | _, [] => f0
 | met, c :: l => if hasB met c.s = true then (120, c.p) else classes1 (met ++ [c.s]) l
def supR (met : List ByteArray) : List ByteArray → List ByteArray → Int
 | _, [] => 0
 | pre, s :: l => if hasB met s = false then 121 else if hasB pre s = true then 120 else supR met (pre ++ [s]) l
def classes2 (met : List ByteArray) : List Cl → Flt
 | [] => f0
 | c :: l => if supR met [] c.su ≠ 0 then (supR met [] c.su, c.p) else classes2 met l
def classes3 (v : En) : List Cl → Flt
 | [] => f0
 | c :: l => if hasB (aboveR v c.s) c.s = true then (124, c.p) else classes3 v l
mutual
def hasVar : Ty → Bool
 | .mk k _ _ ks => if k = 1 then true else hasVars ks
def hasVars : List Ty → Bool
 | [] => false
 | t :: l => if hasVar t = true then true else hasVars l
end
def methE (v : En) (x : ByteArray) (t : Ty) : Int := if rightR v [x] t = 0 ∧ hasVar t = false then 123 else rightR v [x] t
def methR (v : En) (x : ByteArray) : List Me → List ByteArray → Flt × List ByteArray
 | [], known => (f0, known)
 | m :: l, known => if hasB known m.s = true then ((120, m.p), known)
  else if methE v x m.t ≠ 0 then ((methE v x m.t, m.p), known ++ [m.s])
  else methR v x l (known ++ [m.s])
def classes4 (v : En) : List Cl → List ByteArray → Flt
 | [], _ => f0
 | c :: l, known => if (methR v c.v c.ms known).1.1 ≠ 0 then (methR v c.v c.ms known).1
  else if (bndR (c.ms.map Me.s) [] c.ds).1 ≠ 0 then bndR (c.ms.map Me.s) [] c.ds
  else classes4 v l (methR v c.v c.ms known).2
def classesR (v : En) : Flt :=
 if (classes1 [] v.cl).1 ≠ 0 then classes1 [] v.cl
 else if (classes2 (v.cl.map Cl.s) v.cl).1 ≠ 0 then classes2 (v.cl.map Cl.s) v.cl
 else if (classes3 v v.cl).1 ≠ 0 then classes3 v v.cl
 else classes4 v v.cl []
/- instances -/
def varsR (x : In) : List ByteArray := x.hd.kids.map Ty.name
def headL : List ByteArray → List Ty → Int
 | _, [] => 0
 | pre, t :: l => if t.kind ≠ 1 ∨ 0 < t.kids.length ∨ hasB pre t.name = true then 127 else headL (pre ++ [t.name]) l
def headR (v : En) (x : In) : Int :=
 if x.hd.kind ≠ 3 ∨ x.hd.name = kArrow ∨ arityR v x.hd.name < 0 then 127
 else if arityR v x.hd.name ≠ x.hd.kids.length then 122 else headL [] x.hd.kids
def ctxL0 (v : En) (ns : List ByteArray) : List Pr → List Pr → Int
 | _, [] => 0
 | pre, p :: l => if classI v p.c < 0 then 121 else if p.t.kind ≠ 1 ∨ hasB ns p.t.name = false then 123
  else if (pre.any fun q => sameB q.c p.c && sameB q.t.name p.t.name) = true then 120 else ctxL0 v ns (pre ++ [p]) l
def ctxR (v : En) (x : In) : Int := ctxL0 v (varsR x) [] x.cx
def missB (own : List ByteArray) : List ByteArray → Bool
 | [] => false
 | m :: l => if hasB own m = false then true else missB own l
def instR1 (v : En) (i : Nat) (x : In) (c : Cl) : Flt :=
 if headR v x ≠ 0 then (headR v x, x.p)
 else if instI v x.c x.hd.name < i then (125, x.p)
 else if ctxR v x ≠ 0 then (ctxR v x, x.p)
 else if (bndR (c.ms.map Me.s) [] x.bs).1 ≠ 0 then bndR (c.ms.map Me.s) [] x.bs
 else if missB (x.bs.map Bi.s ++ c.ds.map Bi.s) (c.ms.map Me.s) = true then (128, x.p) else f0
def instR (v : En) (i : Nat) (x : In) : Flt :=
 if classI v x.c < 0 then (121, x.p) else match v.cl[(classI v x.c).toNat]? with
  | none => f0
  | some c => instR1 v i x c
def insts1 (v : En) : Nat → List In → Flt
 | _, [] => f0
 | i, x :: l => if (instR v i x).1 ≠ 0 then instR v i x else insts1 v (i + 1) l
def givenR (v : En) (x : In) (c n : ByteArray) : Bool := x.cx.any fun p => sameB p.t.name n && (sameB p.c c || hasB (aboveR v p.c) c)
def supA (v : En) (x : In) (p : Pr) : List Ty → Nat → Bool
 | [], _ => true
 | t :: l, j => if sameB t.name p.t.name = true ∧ givenR v x p.c (((x.hd.kids[j]?).map Ty.name).getD kE) = false then false else supA v x p l (j + 1)
def supB (v : En) (x y : In) : List Pr → Bool
 | [] => true
 | p :: l => if supA v x p y.hd.kids 0 = false then false else supB v x y l
def supC (v : En) (x : In) : List ByteArray → Bool
 | [] => true
 | s :: l => match v.ins[(instI v s x.hd.name).toNat]? with
  | none => false
  | some y => if instI v s x.hd.name < 0 then false else if supB v x y y.cx = false then false else supC v x l
def supersR (v : En) (x : In) : Bool := supC v x (supersOf v x.c)
def insts2 (v : En) : List In → Flt
 | [] => f0
 | x :: l => if supersR v x = false then (126, x.p) else insts2 v l
def binds1 (v : En) : List ByteArray → List Bi → Flt
 | _, [] => f0
 | pre, .mk s _ p :: l => if 0 ≤ (methI s v.cl 0).1 ∨ hasB pre s = true then (120, p) else binds1 v (pre ++ [s]) l
def envOf (p : Pg) : En := .mk p.da p.cl p.ins
def checkR (p : Pg) : Flt :=
 let v := envOf p
 if (datasR v).1 ≠ 0 then datasR v
 else if (classesR v).1 ≠ 0 then classesR v
 else if (insts1 v 0 v.ins).1 ≠ 0 then insts1 v 0 v.ins
 else if (insts2 v v.ins).1 ≠ 0 then insts2 v v.ins
 else binds1 v [] p.bs
def lack (l met : List ByteArray) : Nat := (l.filter fun s => !hasB met s).length
theorem hasB_app (a b : List ByteArray) (s : ByteArray) : hasB (a ++ b) s = (hasB a s || hasB b s) := by unfold hasB; rw [List.any_append]
theorem lack_le (l : List ByteArray) (met : List ByteArray) (s : ByteArray) : lack l (met ++ [s]) ≤ lack l met := by
 unfold lack
 induction l with
 | nil => simp
 | cons x l ih =>
  simp only [List.filter_cons, hasB_app, Bool.not_or]
  cases h : hasB met x with
  | true => simpa [h] using (by simpa [hasB_app] using ih)
  | false =>
   simp only [hasB_app, Bool.not_or] at ih
   cases h2 : hasB [s] x <;> simp <;> omega
theorem lack_lt {l : List ByteArray} {met : List ByteArray} {s : ByteArray} (hs : s ∈ l) (hm : ¬ hasB met s = true) : lack l (met ++ [s]) + 1 ≤ lack l met := by
 induction l with
 | nil => simp at hs
 | cons x l ih =>
  have hle := lack_le l met s
  unfold lack at *
  simp only [List.filter_cons, hasB_app, Bool.not_or] at *
  by_cases e : s = x
  ·subst e
   have h1 : hasB met s = false := by simpa using hm
   have h2 : hasB [s] s = true := hasB_iff.2 (by simp)
   simp only [h1, h2, Bool.not_true, Bool.not_false, Bool.and_false]
   simp
   omega
  have hs' : s ∈ l := by
   rcases List.mem_cons.1 hs with q | q
   ·exact absurd q e
   exact q
  have := ih hs'
  cases h : hasB met x with
  | true => simpa [h] using this
  | false => cases h2 : hasB [s] x <;> simp <;> omega
def Grow (l met met' : List ByteArray) : Prop := met'.length + lack l met' ≤ met.length + lack l met ∧ lack l met' ≤ lack l met ∧ ∀ s ∈ met, s ∈ met'
theorem Grow.refl (l met : List ByteArray) : Grow l met met := ⟨Nat.le_refl _, Nat.le_refl _, fun _ h => h⟩
theorem Grow.trans {l a b c : List ByteArray} (h : Grow l a b) (k : Grow l b c) : Grow l a c := ⟨Nat.le_trans k.1 h.1, Nat.le_trans k.2.1 h.2.1, fun s hs => k.2.2 s (h.2.2 s hs)⟩
theorem Grow.add {l met : List ByteArray} {s : ByteArray} (hs : s ∈ l) (hm : ¬ hasB met s = true) : Grow l met (met ++ [s]) := by
 have := lack_lt hs hm
 exact ⟨by simp; omega, by omega, fun x hx => by simp [hx]⟩
theorem overL_grow {l : List ByteArray} {O : ByteArray → List ByteArray → List ByteArray} (HO : ∀ s met, Grow l met (O s met)) : ∀ (ss met : List ByteArray), (∀ s ∈ ss, s ∈ l) → Grow l met (overL O ss met)
 | [], met, _ => Grow.refl _ _
 | s :: ss, met, h => by
  unfold overL
  by_cases hm : hasB met s = true
  ·rw [if_pos hm]; exact overL_grow HO ss met (fun x hx => h x (by simp [hx]))
  rw [if_neg hm]
  exact ((Grow.add (h s (by simp)) hm).trans (HO s _)).trans (overL_grow HO ss _ (fun x hx => h x (by simp [hx])))
theorem supersOf_sub (v : En) (c : ByteArray) : ∀ s ∈ supersOf v c, s ∈ allSup v := by
 intro s hs
 unfold supersOf at hs
 cases h : v.cl[(classI v c).toNat]? with
 | none => rw [h] at hs; simp at hs
 | some x =>
  rw [h] at hs
  simp only [Option.map_some, Option.getD_some] at hs
  exact List.mem_flatMap.2 ⟨x, Uk h, hs⟩
theorem overF_grow (v : En) : ∀ (n : Nat) (c : ByteArray) (met : List ByteArray), Grow (allSup v) met (overF v n c met)
 | 0, c, met => Grow.refl _ _
 | n + 1, c, met => by
  unfold overF
  split
  ·exact Grow.refl _ _
  exact overL_grow (overF_grow v n) _ _ (supersOf_sub v c)
theorem lack_nil (l : List ByteArray) : lack l [] = l.length := by simp [lack, hasB]
structure EnB (v : En) : Prop where
 da : v.da.length ≤ 100000
 dps : ∀ d ∈ v.da, d.ps.length ≤ 100000 ∧ d.cs.length ≤ 100000
 cl : v.cl.length ≤ 100000
 cls : ∀ c ∈ v.cl, c.su.length ≤ 100000 ∧ c.ms.length ≤ 100000 ∧ c.ds.length ≤ 100000 ∧ ∀ m ∈ c.ms, m.t.size ≤ 1000000
 ins : v.ins.length ≤ 100000
 inss : ∀ x ∈ v.ins, x.cx.length ≤ 100000 ∧ x.bs.length ≤ 100000 ∧ x.hd.kids.length ≤ 200000
theorem flatMap_len {α β : Type} (f : α → List β) (n : Nat) : ∀ l : List α, (∀ x ∈ l, (f x).length ≤ n) → (l.flatMap f).length ≤ l.length * n
 | [], _ => by simp
 | x :: l, h => by
  have h1 := h x (by simp)
  have h2 := flatMap_len f n l (fun y hy => h y (by simp [hy]))
  rw [List.flatMap_cons, List.length_append, List.length_cons, Nat.add_mul]
  omega
theorem EnB.sup {v : En} (h : EnB v) : (allSup v).length ≤ 10000000000 := by
 have := flatMap_len Cl.su 100000 v.cl (fun c hc => (h.cls c hc).1)
 have h2 := h.cl
 unfold allSup
 omega
open Go.RowKit
section
variable {P : Program} {n : Nat} {al : Sl} {M : Mem} {o : Oper} {K : AV → Mem → Prop}
def bts (xs : List Int) : List (List AV) := xs.map fun b => [.val (.int .u8 b)]
theorem bts_flat (xs : List Int) : (bts xs).flatten = xs.map fun b => AV.val (.int .u8 b) := by
 induction xs with
 | nil => rfl
 | cons x xs ih => unfold bts at *; rw [List.map_cons, List.flatten_cons, ih]; rfl
theorem rels_vals {F : EH} : ∀ {vs us : List Value}, Rels F (vs.map AV.val) us → us = vs
 | [], us, h => by cases h; rfl
 | v :: vs, us, h => by
  cases h with
  | cons h hs => cases h; rw [rels_vals hs]
theorem op_bytestr {x : Operand} {t t' e : TypeId} {v : AV} {xs : List Int} (ho : o.op = .convert t t' x) (ht : P.underlying t = some (.slice e)) (he : P.underlying e = some (.int .u8)) (ht' : P.underlying t' = some .string) (hx : al.ev x = some v) (hv : IsSeq v 1 (bts xs)) (h0 : xs ≠ []) (q : K (.val (.string (strOfNums xs))) M) : OpT P o al M K :=
 OpT.plain fun n B F Mf ac w hi hs => by
  have h := hv.rel (hs.ev hx)
  generalize hu : ac.eval x = u at h
  generalize hes : bts xs = es at h
  cases h with
  | seq0 _ ao cap _ => exact absurd (by simpa [bts] using hes) h0
  | seq b off cap hm hn hl h h1 hcq =>
   subst hes
   rw [bts_flat, show (xs.map fun b => AV.val (.int .u8 b)) = (xs.map (Value.int .u8)).map AV.val from by simp] at h
   have := rels_vals h
   subst this
   have hlen : (bts xs).length = xs.length := by simp [bts]
   refine ⟨_, _, ?_, q, .val _⟩
   have := run_convert_bytes_arg (P := P) w t e ht he b off xs.length cap xs rfl (fun i hi' => hi.fix _ _ _ (hl i _ (by simp [hi']))) t' ht'
   simp [execOp, ho, hu, hlen, this]
end
theorem iff_f {p : Prop} (h : ¬ p) : (false = true ↔ p) := by simp [h]
theorem iff_t {p : Prop} (h : p) : (true = true ↔ p) := by simp [h]
section
variable {P : Program} {al : Sl} {M : Mem} {K : AV → Mem → Prop} {o : Oper}
theorem op_bytestr0 {x : Operand} {t t' e : TypeId} {v : AV} (ho : o.op = .convert t t' x) (ht : P.underlying t = some (.slice e)) (he : P.underlying e = some (.int .u8)) (ht' : P.underlying t' = some .string) (hx : al.ev x = some v) (hv : IsSeq v 1 []) (q : K (.val (.string ⟨#[]⟩)) M) : OpT P o al M K :=
 OpT.plain fun n B F Mf ac w hi hs => by
  have h := hv.rel (hs.ev hx)
  generalize hu : ac.eval x = u at h
  have key : ∃ ao cap, u = .slice ao 0 cap := by
   obtain ⟨ao, cap, h⟩ := h.seq_len
   exact ⟨ao, cap, h⟩
  obtain ⟨ao, cap, rfl⟩ := key
  refine ⟨_, _, ?_, q, .val _⟩
  have hr : (convert t t' (.slice ao 0 cap)).run P w = .ok (.string ⟨#[]⟩) w := by
   rw [run_convert_bytes_string w t t' e _ 0 cap ht he ht']
   cases ao <;> simp [Conv.bytesToString, loadCells, loadCellsFrom, ByteArray.empty, ByteArray.emptyWithCapacity] <;> rfl
  simp [execOp, ho, hu, hr]
theorem op_bytestra {x : Operand} {t t' e : TypeId} {v : AV} {xs : List Int} (ho : o.op = .convert t t' x) (ht : P.underlying t = some (.slice e)) (he : P.underlying e = some (.int .u8)) (ht' : P.underlying t' = some .string) (hx : al.ev x = some v) (hv : IsSeq v 1 (bts xs)) (q : K (.val (.string (strOfNums xs))) M) : OpT P o al M K := by
 by_cases h0 : xs = []
 ·subst h0
  exact op_bytestr0 ho ht he ht' hx hv q
 exact op_bytestr ho ht he ht' hx hv h0 q
end
theorem Le.inteq {k : IntKind} {a b : Int} (h : a = b) : Le (.val (.int k a)) (.val (.int k b)) := by rw [h]; exact Vz _
theorem smallC_iff (c : Nat) : smallC c = true ↔ ((97 ≤ c ∧ c ≤ 122) ∨ c = 95) := by simp [smallC]
theorem greatC_iff (c : Nat) : greatC c = true ↔ (65 ≤ c ∧ c ≤ 90) := by simp [greatC]
theorem digitC_iff (c : Nat) : digitC c = true ↔ (48 ≤ c ∧ c ≤ 57) := by simp [digitC]
theorem blankC_iff (c : Nat) : blankC c = true ↔ (c = 32 ∨ c = 9 ∨ c = 10 ∨ c = 13) := by simp [blankC, or_assoc]
theorem nameC_iff (c : Nat) : nameC c = true ↔ (smallC c = true ∨ greatC c = true ∨ digitC c = true ∨ c = 39) := by simp [nameC, or_assoc]
theorem small_c (c : Nat) : BCall Tryz.prog 118 [.val (.int .u8 c)] (smallC c = true) := by
 refine Zw Tryz.func118 V (by kernel_rfl) V (Uf V) ?_
 refine Yf (Zg (Zc (Za 2 V V V (Ze V V (Vs (Zb (Zg (Xl 2 ((97 ≤ c ∧ c ≤ 122) ∨ c = 95) ?_ _ _ V ?_))))))))
 ·skip
  refine Za 3 V V V (Zd V V (Za 4 V V V (Wa V V V ?_))); intro c4 h4
  refine Za 5 V V V (Zd V V ?_)
  rcases Zi h4 with ⟨rfl, g4⟩ | ⟨rfl, g4⟩
  ·skip
   refine Zk 6 V V V V V (Zk 7 V V V V V (Za 8 V V V (Zn V V V (Za 9 V V V (Zd V V (Zl 10 V V V V V (Zd V V (Zl 11 V V V V V (Yr V V V ?_))))))))); intro c11 h11
   refine Za 12 V V V (Zn V V V (Za 2 V V V (Ze V V (Vs (Ud V ?_ by5 by3)))))
   simp_all; omega
  skip
  refine Zl 6 V V V V V (Zd V V (Zl 7 V V V V V (op_leq V V V ?_))); intro c7 h7
  refine Za 8 V V V (Zn V V V (Za 9 V V V (Zd V V ?_)))
  rcases Zi h7 with ⟨rfl, g7⟩ | ⟨rfl, g7⟩
  ·skip
   refine Zl 10 V V V V V (Zd V V (Zl 11 V V V V V (Yr V V V ?_))); intro c11 h11
   refine Za 12 V V V (Zn V V V (Za 2 V V V (Ze V V (Vs (Ud V ?_ by5 by3)))))
   simp_all; omega
  skip
  refine Zk 10 V V V V V (Zk 11 V V V V V (Za 12 V V V (Zn V V V (Za 2 V V V (Ze V V (Vs (Ud V ?_ by5 by3)))))))
  simp_all; omega
 intro c2 h2
 exact Zb (Ya (Yh V V (Vz _) by3 ⟨⟨_, h2.trans (smallC_iff c).symm, V⟩, V⟩))
theorem great_c (c : Nat) : BCall Tryz.prog 119 [.val (.int .u8 c)] (greatC c = true) := by
 refine Zw Tryz.func119 V (by kernel_rfl) V (Uf V) ?_
 refine Yf (Zg (Zc (Za 2 V V V (Ze V V (Vs (Zb (Zg (Xl 2 (65 ≤ c ∧ c ≤ 90) ?_ _ _ V ?_))))))))
 ·skip
  refine Za 3 V V V (Zd V V (Za 4 V V V (Wa V V V ?_))); intro c4 h4
  refine Za 5 V V V (Zd V V ?_)
  rcases Zi h4 with ⟨rfl, g4⟩ | ⟨rfl, g4⟩
  ·skip
   refine Zk 6 V V V V V (Zk 7 V V V V V (Za 8 V V V (Zn V V V (Za 2 V V V (Ze V V (Vs (Ud V ?_ by5 by3)))))))
   simp_all; omega
  skip
  refine Zl 6 V V V V V (Zd V V (Zl 7 V V V V V (op_leq V V V ?_))); intro c7 h7
  refine Za 8 V V V (Zn V V V (Za 2 V V V (Ze V V (Vs (Ud V ?_ by5 by3)))))
  simp_all; omega
 intro c2 h2
 exact Zb (Ya (Yh V V (Vz _) by3 ⟨⟨_, h2.trans (greatC_iff c).symm, V⟩, V⟩))
theorem digit_c (c : Nat) : BCall Tryz.prog 115 [.val (.int .u8 c)] (digitC c = true) := by
 refine Zw Tryz.func115 V (by kernel_rfl) V (Uf V) ?_
 refine Yf (Zg (Zc (Za 2 V V V (Ze V V (Vs (Zb (Zg (Xl 2 (48 ≤ c ∧ c ≤ 57) ?_ _ _ V ?_))))))))
 ·skip
  refine Za 3 V V V (Zd V V (Za 4 V V V (Wa V V V ?_))); intro c4 h4
  refine Za 5 V V V (Zd V V ?_)
  rcases Zi h4 with ⟨rfl, g4⟩ | ⟨rfl, g4⟩
  ·skip
   refine Zk 6 V V V V V (Zk 7 V V V V V (Za 8 V V V (Zn V V V (Za 2 V V V (Ze V V (Vs (Ud V ?_ by5 by3)))))))
   simp_all; omega
  skip
  refine Zl 6 V V V V V (Zd V V (Zl 7 V V V V V (op_leq V V V ?_))); intro c7 h7
  refine Za 8 V V V (Zn V V V (Za 2 V V V (Ze V V (Vs (Ud V ?_ by5 by3)))))
  simp_all; omega
 intro c2 h2
 exact Zb (Ya (Yh V V (Vz _) by3 ⟨⟨_, h2.trans (digitC_iff c).symm, V⟩, V⟩))
theorem blank_c (c : Nat) : BCall Tryz.prog 113 [.val (.int .u8 c)] (blankC c = true) := by
 refine Zw Tryz.func113 V (by kernel_rfl) V (Uf V) ?_
 refine Yf (Zg (Zc (Za 2 V V V (Ze V V (Vs (Zb (Zg (Xl 2 (c = 32 ∨ c = 9 ∨ c = 10 ∨ c = 13) ?_ _ _ V ?_))))))))
 ·skip
  refine Za 3 V V V (Zd V V (Za 4 V V V (Yr V V V ?_))); intro c4 h4
  refine Za 5 V V V (Zd V V ?_)
  rcases Zi h4 with ⟨rfl, g4⟩ | ⟨rfl, g4⟩
  ·skip
   refine Zl 6 V V V V V (Zd V V (Zl 7 V V V V V (Yr V V V ?_))); intro c7 h7
   refine Za 8 V V V (Zn V V V (Za 9 V V V (Zd V V ?_)))
   rcases Zi h7 with ⟨rfl, g7⟩ | ⟨rfl, g7⟩
   ·skip
    refine Zl 10 V V V V V (Zd V V (Zl 11 V V V V V (Yr V V V ?_))); intro c11 h11
    refine Za 12 V V V (Zn V V V (Za 13 V V V (Zd V V ?_)))
    rcases Zi h11 with ⟨rfl, g11⟩ | ⟨rfl, g11⟩
    ·skip
     refine Zl 14 V V V V V (Zd V V (Zl 15 V V V V V (Yr V V V ?_))); intro c15 h15
     refine Za 16 V V V (Zn V V V (Za 2 V V V (Ze V V (Vs (Ud V ?_ by5 by3)))))
     simp_all; omega
    skip
    refine Zk 14 V V V V V (Zk 15 V V V V V (Za 16 V V V (Zn V V V (Za 2 V V V (Ze V V (Vs (Ud V ?_ by5 by3)))))))
    simp_all; omega
   skip
   refine Zk 10 V V V V V (Zk 11 V V V V V (Za 12 V V V (Zn V V V (Za 13 V V V (Zd V V (Zk 14 V V V V V (Zk 15 V V V V V (Za 16 V V V (Zn V V V (Za 2 V V V (Ze V V (Vs (Ud V ?_ by5 by3)))))))))))))
   simp_all; omega
  skip
  refine Zk 6 V V V V V (Zk 7 V V V V V (Za 8 V V V (Zn V V V (Za 9 V V V (Zd V V (Zk 10 V V V V V (Zk 11 V V V V V (Za 12 V V V (Zn V V V (Za 13 V V V (Zd V V (Zk 14 V V V V V (Zk 15 V V V V V (Za 16 V V V (Zn V V V (Za 2 V V V (Ze V V ?_)))))))))))))))))
  refine Vs (Ud V ?_ by5 by3)
  simp_all; omega
 intro c2 h2
 exact Zb (Ya (Yh V V (Vz _) by3 ⟨⟨_, h2.trans (blankC_iff c).symm, V⟩, V⟩))
theorem in_c (s : ByteArray) (hs : s.size ≤ 60000) (c : Nat) : BCall Tryz.prog 127 [.val (.string s), .val (.int .u8 c)] (c ∈ bytesN s) := by
 refine Zw Tryz.func127 V (by kernel_rfl) V (Uf V) ?_
 refine Yf (Zg (Zc (Za 4 V V V (Ze V V (Vs (Zb (Zg (Zg (Zc (Za 5 V V V (Ze V V (Vs (Zb (Zz ?_))))))))))))))
 refine c_loop (σ := Nat) (fun zz => match zz with | i => [(0, .val (.string s)), (1, .val (.int .u8 c)), (5, .val (.int .i64 i))]) (fun zz => match zz with | i => []) (fun zz => match zz with | i => i ≤ s.size ∧ (c ∈ bytesN s ↔ c ∈ rst s i)) (fun zz => match zz with | i => s.size - i) (0) ?_ ?_ ?_ ?_
 ·exact ⟨Nat.zero_le _, Iff.rfl⟩
 ·exact by4
 ·exact by3
 rintro i hI
 try dsimp only [List.cons_append, List.nil_append] at hI ⊢
 obtain ⟨hi, hu⟩ := hI
 refine Zg (Zg (Zc (Za 6 V V V (Zd V V (Za 7 V V V (Zd V V (Za 8 V V V (Xs V Ws V (Za 9 V V V (Yu V V V ?_)))))))))); intro c9 h9
 refine Vs (Zb ?_)
 rcases Zi h9 with ⟨rfl, g9⟩ | ⟨rfl, g9⟩
 ·refine Zr V (Xc (Xe (Xv (Xd (Zb (Zg (Zc (Za 4 V V V (Ze V V (Vs (Zb (Ya ?_))))))))))))
  exact Yh V V (Vz _) by3 ⟨⟨_, iff_f (fun q => by have := hu.1 q; rw [rst_nil (by omega)] at this; cases this), V⟩, V⟩
 refine Zt V (Zv (Zb (Zg (Zz (Zg ?_)))))
 obtain ⟨b, hb, hr, hlt⟩ := Wx (s := s) (i := i) (by omega)
 refine Zc (Za 12 V V V (Zd V V (Za 13 V V V (Zd V V (Za 14 V V V (Xg V Ws V V V (hb) (Za 15 V V V (Zd V V (Za 16 V V V (Yr V V V ?_)))))))))); intro c16 h16
 refine Vs (Zb ?_)
 rcases Zi h16 with ⟨rfl, g16⟩ | ⟨rfl, g16⟩
 ·refine Zr V (Zv (Yt (Zb (Zc (Za 10 V V V (Zd V V (Za 11 V V V (Yx V V V (Uj _ (by omega)) ?_))))))))
  refine Za 5 V V V (Ze V V (Vs (Yz ?_)))
  exact ⟨i + 1, ⟨by omega, hu.trans (by rw [hr]; simp; omega)⟩, by simp; omega, by4, by3⟩
 refine Zt V (Zg (Zc (Za 4 V V V (Ze V V (Vs (Zb (Ya ?_)))))))
 exact Yh V V (Vz _) by3 ⟨⟨_, iff_t (hu.2 (by rw [hr]; simp; omega)), V⟩, V⟩
theorem signBytes : bytesN ⟨#[33, 36, 37, 38, 42, 43, 46, 47, 60, 61, 62, 63, 64, 94, 124, 126, 58, 45]⟩ = signL := by decide
theorem sign_c (c : Nat) : BCall Tryz.prog 120 [.val (.int .u8 c)] (signC c = true) := by
 have H := in_c ⟨#[33, 36, 37, 38, 42, 43, 46, 47, 60, 61, 62, 63, 64, 94, 124, 126, 58, 45]⟩ (by decide) c
 rw [signBytes] at H
 have hC : c ∈ signL ↔ signC c = true := by unfold signC; exact (List.contains_iff_mem).symm
 refine Zw Tryz.func120 V (by kernel_rfl) V (Uf V) ?_
 refine Yf (Zg (Zc (Za 2 V V V (Ze V V (Vs (Zb (Zg (Zc (Za 3 V V V (Zd V V (Za 4 V V V (Yg (xs := [.const (.string ⟨#[33, 36, 37, 38, 42, 43, 46, 47, 60, 61, 62, 63, 64, 94, 124, 126, 58, 45]⟩), .tmp 3]) V V (H) by1 ?_)))))))))))); intro c4 h4
 exact Za 2 V V V (Ze V V (Vs (Zb (Ya (Yh V V (Vz _) by3 ⟨⟨_, h4.trans hC, V⟩, V⟩)))))
theorem name_c (c : Nat) : BCall Tryz.prog 128 [.val (.int .u8 c)] (nameC c = true) := by
 have H1 := small_c c
 have H2 := great_c c
 have H3 := digit_c c
 have hN := nameC_iff c
 refine Zw Tryz.func128 V (by kernel_rfl) V (Uf V) ?_
 refine Yf (Zg (Zc (Za 2 V V V (Ze V V (Vs (Zb (Zg (Xl 2 (smallC c = true ∨ greatC c = true ∨ digitC c = true ∨ c = 39) ?_ _ _ V ?_))))))))
 ·skip
  refine Za 3 V V V (Zd V V (Za 4 V V V (Yg (xs := [.tmp 3]) V V (H1) by1 ?_))); intro c4 h4
  refine Za 5 V V V (Zd V V ?_)
  rcases Zi h4 with ⟨rfl, g4⟩ | ⟨rfl, g4⟩
  ·skip
   refine Zl 6 V V V V V (Zd V V (Zl 7 V V V V V (Yg (xs := [.tmp 6]) V V (H2) by1 ?_))); intro c7 h7
   refine Za 8 V V V (Zn V V V (Za 9 V V V (Zd V V ?_)))
   rcases Zi h7 with ⟨rfl, g7⟩ | ⟨rfl, g7⟩
   ·skip
    refine Zl 10 V V V V V (Zd V V (Zl 11 V V V V V (Yg (xs := [.tmp 10]) V V (H3) by1 ?_))); intro c11 h11
    refine Za 12 V V V (Zn V V V (Za 13 V V V (Zd V V ?_)))
    rcases Zi h11 with ⟨rfl, g11⟩ | ⟨rfl, g11⟩
    ·skip
     refine Zl 14 V V V V V (Zd V V (Zl 15 V V V V V (Yr V V V ?_))); intro c15 h15
     refine Za 16 V V V (Zn V V V (Za 2 V V V (Ze V V (Vs (Ud V ?_ by5 by3)))))
     simp_all; omega
    skip
    refine Zk 14 V V V V V (Zk 15 V V V V V (Za 16 V V V (Zn V V V (Za 2 V V V (Ze V V (Vs (Ud V ?_ by5 by3)))))))
    simp_all; done
   skip
   refine Zk 10 V V V V V (Zk 11 V V V V V (Za 12 V V V (Zn V V V (Za 13 V V V (Zd V V (Zk 14 V V V V V (Zk 15 V V V V V (Za 16 V V V (Zn V V V (Za 2 V V V (Ze V V (Vs (Ud V ?_ by5 by3)))))))))))))
   simp_all; done
  skip
  refine Zk 6 V V V V V (Zk 7 V V V V V (Za 8 V V V (Zn V V V (Za 9 V V V (Zd V V (Zk 10 V V V V V (Zk 11 V V V V V (Za 12 V V V (Zn V V V (Za 13 V V V (Zd V V (Zk 14 V V V V V (Zk 15 V V V V V (Za 16 V V V (Zn V V V (Za 2 V V V (Ze V V ?_)))))))))))))))))
  refine Vs (Ud V ?_ by5 by3)
  simp_all; done
 intro c2 h2
 exact Zb (Ya (Yh V V (Vz _) by3 ⟨⟨_, h2.trans hN.symm, V⟩, V⟩))
theorem byteAt_ (s : ByteArray) (i : Nat) : ∃ b : UInt8, i < s.size → s[i]? = some b ∧ rst s i = b.toNat :: rst s (i + 1) ∧ b.toNat < 256 := by
 by_cases q : i < s.size
 ·obtain ⟨b, h⟩ := Wx q
  exact ⟨b, fun _ => h⟩
 exact ⟨0, fun h => absurd h q⟩
theorem kindC_iff (k c : Nat) (h1 : 1 ≤ k) (h3 : k ≤ 3) : kindC k c = true ↔ ((k = 1 ∧ nameC c = true) ∨ (k = 2 ∧ digitC c = true) ∨ (k = 3 ∧ signC c = true)) := by
 unfold kindC
 by_cases q1 : k = 1
 ·subst q1; simp
 rw [if_neg q1]
 by_cases q2 : k = 2
 ·subst q2; simp
 rw [if_neg q2]
 have q3 : k = 3 := by omega
 subst q3; simp
theorem end_c (s : ByteArray) (hs : s.size ≤ 60000) (at_ k : Nat) (ha : at_ ≤ s.size) (k1 : 1 ≤ k) (k3 : k ≤ 3) : PCall Tryz.prog 116 [.val (.string s), .val (.int .i64 at_), .val (.int .i64 k)] (.val (.int .i64 ((at_ + run k (rst s at_) : Nat) : Int))) := by
 have HN := name_c
 have HD := digit_c
 have HS := sign_c
 refine Zw Tryz.func116 V (by kernel_rfl) V (Uf V) ?_
 refine Yf (Zg (Zc (Za 6 V V V (Ze V V (Vs (Zb (Zg (Zz ?_))))))))
 refine c_loop (σ := Nat) (fun zz => match zz with | i => [(0, .val (.string s)), (1, .val (.int .i64 i)), (2, .val (.int .i64 k))]) (fun zz => match zz with | i => []) (fun zz => match zz with | i => i ≤ s.size ∧ i + run k (rst s i) = at_ + run k (rst s at_)) (fun zz => match zz with | i => s.size - i) (at_) ?_ ?_ ?_ ?_
 ·exact ⟨ha, V⟩
 ·exact by4
 ·exact by3
 rintro i hI
 try dsimp only [List.cons_append, List.nil_append] at hI ⊢
 obtain ⟨hi, hu⟩ := hI
 refine Zg (Zg ?_)
 obtain ⟨b, hb⟩ := byteAt_ s i
 have hK := kindC_iff k b.toNat k1 k3
 refine Xl 40 (i < s.size ∧ kindC k b.toNat = true) ?_ _ _ V ?_
 ·skip
  refine Za 7 V V V (Zd V V (Za 8 V V V (Zd V V (Za 9 V V V (Xs V Ws V (Za 10 V V V (Yu V V V ?_))))))); intro c10 h10
  refine Za 11 V V V (Zd V V ?_)
  rcases Zi h10 with ⟨rfl, g10⟩ | ⟨rfl, g10⟩
  ·skip
   refine Zk 12 V V V V V (Zk 13 V V V V V (Zk 14 V V V V V (Yj 15 V V V V V (Yj 16 V V V V V (Yj 17 V V V V V (Yj 18 V V V V V (Zk 19 V V V V V (Zk 20 V V V V V (Yj 21 V V V V V (Yj 22 V V V V V (Yj 23 V V V V V ?_)))))))))))
   refine Yj 24 V V V V V (Yj 25 V V V V V (Yj 26 V V V V V (Yj 27 V V V V V (Yj 28 V V V V V (Zk 29 V V V V V (Zk 30 V V V V V (Yj 31 V V V V V (Yj 32 V V V V V (Yj 33 V V V V V (Yj 34 V V V V V (Yj 35 V V V V V ?_)))))))))))
   refine Yj 36 V V V V V (Yj 37 V V V V V (Yj 38 V V V V V (Zk 39 V V V V V (Za 40 V V V (Zn V V V (Vs (Ud V ?_ by5 by3)))))))
   clear HN HD HS hu hb; first | (simp_all; done) | grind
  skip
  refine Zl 12 V V V V V (Zd V V (Zl 13 V V V V V (Yr V V V ?_))); intro c13 h13
  refine Zl 14 V V V V V (Zd V V ?_)
  rcases Zi h13 with ⟨rfl, g13⟩ | ⟨rfl, g13⟩
  ·skip
   refine Zk 15 V V V V V (Zk 16 V V V V V (Zk 17 V V V V V (Zk 18 V V V V V (Zl 19 V V V V V (Zn V V V (Zl 20 V V V V V (Zd V V (Zl 21 V V V V V (Zd V V (Zl 22 V V V V V (Yr V V V ?_))))))))))); intro c22 h22
   refine Zl 23 V V V V V (Zd V V ?_)
   rcases Zi h22 with ⟨rfl, g22⟩ | ⟨rfl, g22⟩
   ·skip
    refine Zk 24 V V V V V (Zk 25 V V V V V (Zk 26 V V V V V (Zk 27 V V V V V (Zl 28 V V V V V (Zn V V V (Zl 29 V V V V V (Zn V V V (Zl 30 V V V V V (Zd V V (Zl 31 V V V V V (Zd V V (Zl 32 V V V V V (Yr V V V ?_))))))))))))); intro c32 h32
    refine Zl 33 V V V V V (Zd V V ?_)
    rcases Zi h32 with ⟨rfl, g32⟩ | ⟨rfl, g32⟩
    ·skip
     refine Zk 34 V V V V V (Zk 35 V V V V V (Zk 36 V V V V V (Zk 37 V V V V V (Zl 38 V V V V V (Zn V V V (Zl 39 V V V V V (Zn V V V (Za 40 V V V (Zn V V V (Vs (Ud V ?_ by5 by3)))))))))))
     clear HN HD HS hu hb; first | (simp_all; done) | grind
    skip
    refine Zl 34 V V V V V (Zd V V (Zl 35 V V V V V (Zd V V (Zl 36 V V V V V (Xg V Ws V V V ((hb (by omega)).1) ?_)))))
    refine Zl 37 V V V V V (Yg (xs := [.tmp 36]) V V (HS _) by1 ?_); intro c37 h37
    refine Zl 38 V V V V V (Zn V V V (Zl 39 V V V V V (Zn V V V (Za 40 V V V (Zn V V V (Vs (Ud V ?_ by5 by3)))))))
    clear HN HD HS hu hb; first | (simp_all; done) | grind
   skip
   refine Zl 24 V V V V V (Zd V V (Zl 25 V V V V V (Zd V V (Zl 26 V V V V V (Xg V Ws V V V ((hb (by omega)).1) ?_)))))
   refine Zl 27 V V V V V (Yg (xs := [.tmp 26]) V V (HD _) by1 ?_); intro c27 h27
   refine Zl 28 V V V V V (Zn V V V (Zl 29 V V V V V (Zn V V V (Zl 30 V V V V V (Zd V V ?_)))))
   rcases Zi h27 with ⟨rfl, g27⟩ | ⟨rfl, g27⟩
   ·skip
    refine Zl 31 V V V V V (Zd V V (Zl 32 V V V V V (Yr V V V ?_))); intro c32 h32
    refine Zl 33 V V V V V (Zd V V ?_)
    rcases Zi h32 with ⟨rfl, g32⟩ | ⟨rfl, g32⟩
    ·skip
     refine Zk 34 V V V V V (Zk 35 V V V V V (Zk 36 V V V V V (Zk 37 V V V V V (Zl 38 V V V V V (Zn V V V (Zl 39 V V V V V (Zn V V V (Za 40 V V V (Zn V V V (Vs (Ud V ?_ by5 by3)))))))))))
     clear HN HD HS hu hb; first | (simp_all; done) | grind
    skip
    refine Zl 34 V V V V V (Zd V V (Zl 35 V V V V V (Zd V V (Zl 36 V V V V V (Xg V Ws V V V ((hb (by omega)).1) ?_)))))
    refine Zl 37 V V V V V (Yg (xs := [.tmp 36]) V V (HS _) by1 ?_); intro c37 h37
    refine Zl 38 V V V V V (Zn V V V (Zl 39 V V V V V (Zn V V V (Za 40 V V V (Zn V V V (Vs (Ud V ?_ by5 by3)))))))
    clear HN HD HS hu hb; first | (simp_all; done) | grind
   skip
   refine Zk 31 V V V V V (Zk 32 V V V V V (Zk 33 V V V V V (Yj 34 V V V V V (Yj 35 V V V V V (Yj 36 V V V V V (Yj 37 V V V V V (Zk 38 V V V V V (Zl 39 V V V V V (Zn V V V (Za 40 V V V (Zn V V V (Vs (Ud V ?_ by5 by3)))))))))))))
   clear HN HD HS hu hb; first | (simp_all; done) | grind
  skip
  refine Zl 15 V V V V V (Zd V V (Zl 16 V V V V V (Zd V V (Zl 17 V V V V V (Xg V Ws V V V ((hb (by omega)).1) ?_)))))
  refine Zl 18 V V V V V (Yg (xs := [.tmp 17]) V V (HN _) by1 ?_); intro c18 h18
  refine Zl 19 V V V V V (Zn V V V (Zl 20 V V V V V (Zd V V ?_)))
  rcases Zi h18 with ⟨rfl, g18⟩ | ⟨rfl, g18⟩
  ·skip
   refine Zl 21 V V V V V (Zd V V (Zl 22 V V V V V (Yr V V V ?_))); intro c22 h22
   refine Zl 23 V V V V V (Zd V V ?_)
   rcases Zi h22 with ⟨rfl, g22⟩ | ⟨rfl, g22⟩
   ·skip
    refine Zk 24 V V V V V (Zk 25 V V V V V (Zk 26 V V V V V (Zk 27 V V V V V (Zl 28 V V V V V (Zn V V V (Zl 29 V V V V V (Zn V V V (Zl 30 V V V V V (Zd V V (Zl 31 V V V V V (Zd V V (Zl 32 V V V V V (Yr V V V ?_))))))))))))); intro c32 h32
    refine Zl 33 V V V V V (Zd V V ?_)
    rcases Zi h32 with ⟨rfl, g32⟩ | ⟨rfl, g32⟩
    ·skip
     refine Zk 34 V V V V V (Zk 35 V V V V V (Zk 36 V V V V V (Zk 37 V V V V V (Zl 38 V V V V V (Zn V V V (Zl 39 V V V V V (Zn V V V (Za 40 V V V (Zn V V V (Vs (Ud V ?_ by5 by3)))))))))))
     clear HN HD HS hu hb; first | (simp_all; done) | grind
    skip
    refine Zl 34 V V V V V (Zd V V (Zl 35 V V V V V (Zd V V (Zl 36 V V V V V (Xg V Ws V V V ((hb (by omega)).1) ?_)))))
    refine Zl 37 V V V V V (Yg (xs := [.tmp 36]) V V (HS _) by1 ?_); intro c37 h37
    refine Zl 38 V V V V V (Zn V V V (Zl 39 V V V V V (Zn V V V (Za 40 V V V (Zn V V V (Vs (Ud V ?_ by5 by3)))))))
    clear HN HD HS hu hb; first | (simp_all; done) | grind
   skip
   refine Zl 24 V V V V V (Zd V V (Zl 25 V V V V V (Zd V V (Zl 26 V V V V V (Xg V Ws V V V ((hb (by omega)).1) ?_)))))
   refine Zl 27 V V V V V (Yg (xs := [.tmp 26]) V V (HD _) by1 ?_); intro c27 h27
   refine Zl 28 V V V V V (Zn V V V (Zl 29 V V V V V (Zn V V V (Zl 30 V V V V V (Zd V V ?_)))))
   rcases Zi h27 with ⟨rfl, g27⟩ | ⟨rfl, g27⟩
   ·skip
    refine Zl 31 V V V V V (Zd V V (Zl 32 V V V V V (Yr V V V ?_))); intro c32 h32
    refine Zl 33 V V V V V (Zd V V ?_)
    rcases Zi h32 with ⟨rfl, g32⟩ | ⟨rfl, g32⟩
    ·skip
     refine Zk 34 V V V V V (Zk 35 V V V V V (Zk 36 V V V V V (Zk 37 V V V V V (Zl 38 V V V V V (Zn V V V (Zl 39 V V V V V (Zn V V V (Za 40 V V V (Zn V V V (Vs (Ud V ?_ by5 by3)))))))))))
     clear HN HD HS hu hb; first | (simp_all; done) | grind
    skip
    refine Zl 34 V V V V V (Zd V V (Zl 35 V V V V V (Zd V V (Zl 36 V V V V V (Xg V Ws V V V ((hb (by omega)).1) ?_)))))
    refine Zl 37 V V V V V (Yg (xs := [.tmp 36]) V V (HS _) by1 ?_); intro c37 h37
    refine Zl 38 V V V V V (Zn V V V (Zl 39 V V V V V (Zn V V V (Za 40 V V V (Zn V V V (Vs (Ud V ?_ by5 by3)))))))
    clear HN HD HS hu hb; first | (simp_all; done) | grind
   skip
   refine Zk 31 V V V V V (Zk 32 V V V V V (Zk 33 V V V V V (Yj 34 V V V V V (Yj 35 V V V V V (Yj 36 V V V V V (Yj 37 V V V V V (Zk 38 V V V V V (Zl 39 V V V V V (Zn V V V (Za 40 V V V (Zn V V V (Vs (Ud V ?_ by5 by3)))))))))))))
   clear HN HD HS hu hb; first | (simp_all; done) | grind
  skip
  refine Zk 21 V V V V V (Zk 22 V V V V V (Zk 23 V V V V V (Yj 24 V V V V V (Yj 25 V V V V V (Yj 26 V V V V V (Yj 27 V V V V V (Zk 28 V V V V V (Zl 29 V V V V V (Zn V V V (Zl 30 V V V V V (Zd V V (Zk 31 V V V V V (Zk 32 V V V V V ?_)))))))))))))
  refine Zk 33 V V V V V (Yj 34 V V V V V (Yj 35 V V V V V (Yj 36 V V V V V (Yj 37 V V V V V (Zk 38 V V V V V (Zl 39 V V V V V (Zn V V V (Za 40 V V V (Zn V V V (Vs (Ud V ?_ by5 by3)))))))))))
  clear HN HD HS hu hb; first | (simp_all; done) | grind
 intro c40 h40
 refine Zb ?_
 rcases Zi h40 with ⟨rfl, g40⟩ | ⟨rfl, g40⟩
 ·refine Zr V (Xc (Xe (Xv (Xd (Zb (Zg (Zc (Za 43 V V V (Zd V V (Za 6 V V V (Ze V V (Vs (Zb (Ya (Yh V V (Le.inteq ?_) by3 ⟨V, V⟩)))))))))))))))
  rw [← hu]
  by_cases q : i < s.size
  ·rw [(hb q).2.1, run, if_neg (fun h => g40 ⟨q, h⟩)]; simp
  rw [rst_nil (by omega)]; simp [run]
 refine Zt V (Zv (Zb (Zz (Zc (Za 41 V V V (Zd V V (Za 42 V V V (Yx V V V (Uj _ (by omega)) ?_))))))))
 refine Za 1 V V V (Ze V V (Vs (Yt (Yz ?_))))
 refine ⟨i + 1, ⟨by omega, ?_⟩, by simp; omega, by4, by3⟩
 rw [(hb g40.1).2.1, run, if_pos g40.2] at hu
 omega
theorem over_exit {s : ByteArray} {j : Nat} {d : UInt8} (hd : j < s.size → s[j]? = some d ∧ rst s j = d.toNat :: rst s (j + 1) ∧ d.toNat < 256) (h : ¬ (j < s.size ∧ d.toNat ≠ 10)) : ovr true (rst s j) = ovr false (rst s j) := by
 by_cases q : j < s.size
 ·have h2 : d.toNat = 10 := Classical.not_not.1 fun h3 => h ⟨q, h3⟩
  rw [(hd q).2.1, h2, ovr_10]
 rw [rst_nil (by omega), ovr_nil, ovr_nil]
theorem over_c (s : ByteArray) (hs : s.size ≤ 60000) (at_ : Nat) (ha : at_ ≤ s.size) : PCall Tryz.prog 102 [.val (.string s), .val (.int .i64 at_)] (.val (.int .i64 ((at_ + ovr false (rst s at_) : Nat) : Int))) := by
 have HB := blank_c
 refine Zw Tryz.func102 V (by kernel_rfl) V (Uf V) ?_
 refine Yf (Zg (Zc (Za 4 V V V (Ze V V (Vs (Zb (Zg (Zz ?_))))))))
 refine c_loop (σ := Nat) (fun zz => match zz with | i => [(0, .val (.string s)), (1, .val (.int .i64 i))]) (fun zz => match zz with | i => []) (fun zz => match zz with | i => i ≤ s.size ∧ i + ovr false (rst s i) = at_ + ovr false (rst s at_)) (fun zz => match zz with | i => s.size - i) (at_) ?_ ?_ ?_ ?_
 ·exact ⟨ha, V⟩
 ·exact by4
 ·exact by3
 rintro i hI
 try dsimp only [List.cons_append, List.nil_append] at hI ⊢
 obtain ⟨hi, hu⟩ := hI
 refine Zg (Zg ?_)
 obtain ⟨b, hb⟩ := byteAt_ s i
 refine Xl 20 (i < s.size ∧ (blankC b.toNat = true ∨ b.toNat = 35)) ?_ _ _ V ?_
 ·skip
  refine Za 5 V V V (Zd V V (Za 6 V V V (Zd V V (Za 7 V V V (Xs V Ws V (Za 8 V V V (Yu V V V ?_))))))); intro c8 h8
  refine Za 9 V V V (Zd V V ?_)
  rcases Zi h8 with ⟨rfl, g8⟩ | ⟨rfl, g8⟩
  ·skip
   refine Zk 10 V V V V V (Zk 11 V V V V V (Zk 12 V V V V V (Zk 13 V V V V V (Zk 14 V V V V V (Yj 15 V V V V V (Yj 16 V V V V V (Yj 17 V V V V V (Yj 18 V V V V V (Zk 19 V V V V V (Za 20 V V V (Zn V V V (Vs ?_))))))))))))
   refine Ud V ?_ by5 by3
   clear HB hu hb; first | (simp_all; done) | grind
  skip
  refine Zl 10 V V V V V (Zd V V (Zl 11 V V V V V (Zd V V (Zl 12 V V V V V (Xg V Ws V V V ((hb (by omega)).1) ?_)))))
  refine Zl 13 V V V V V (Yg (xs := [.tmp 12]) V V (HB _) by1 ?_); intro c13 h13
  refine Zl 14 V V V V V (Zd V V ?_)
  rcases Zi h13 with ⟨rfl, g13⟩ | ⟨rfl, g13⟩
  ·skip
   refine Zl 15 V V V V V (Zd V V (Zl 16 V V V V V (Zd V V (Zl 17 V V V V V (Xg V Ws V V V ((hb (by omega)).1) ?_)))))
   refine Zl 18 V V V V V (Yr V V V ?_); intro c18 h18
   refine Zl 19 V V V V V (Zn V V V (Za 20 V V V (Zn V V V (Vs (Ud V ?_ by5 by3)))))
   clear HB hu hb; first | (simp_all; done) | grind
  skip
  refine Zk 15 V V V V V (Zk 16 V V V V V (Zk 17 V V V V V (Zk 18 V V V V V (Zl 19 V V V V V (Zn V V V (Za 20 V V V (Zn V V V (Vs (Ud V ?_ by5 by3)))))))))
  clear HB hu hb; first | (simp_all; done) | grind
 intro c20 h20
 refine Zb ?_
 rcases Zi h20 with ⟨rfl, g20⟩ | ⟨rfl, g20⟩
 ·refine Zr V (Xc (Xe (Xv (Xd (Zb (Zg (Zc (Za 39 V V V (Zd V V (Za 4 V V V (Ze V V (Vs (Zb (Ya (Yh V V (Le.inteq ?_) by3 ⟨V, V⟩)))))))))))))))
  rw [← hu]
  by_cases q : i < s.size
  ·rw [(hb q).2.1, ovr_stop _ (fun h => g20 ⟨q, .inr h⟩) (fun h => g20 ⟨q, .inl h⟩)]; simp
  rw [rst_nil (by omega), ovr_nil]; simp
 refine Zt V (Zv (Zb (Zz (Zg (Zc (Za 21 V V V (Zd V V (Za 22 V V V (Zd V V (Za 23 V V V (Xg V Ws V V V ((hb g20.1).1) (Za 24 V V V (Yr V V V ?_))))))))))))); intro c24 h24
 refine Vs (Zb ?_)
 rcases Zi h24 with ⟨rfl, g24⟩ | ⟨rfl, g24⟩
 ·refine Zr V (Zc (Za 37 V V V (Zd V V (Za 38 V V V (Yx V V V (Uj _ (by omega)) ?_)))))
  refine Za 1 V V V (Ze V V (Vs (Yt (Yz ?_))))
  first
  | (have hx := over_exit hd g34
     have hij : i < j := by
      rcases Nat.lt_or_ge i j with q | q
      ·exact q
      have : j = i := by omega
      subst this
      have e := (hd g20.1).1.symm.trans (hb g20.1).1
      cases e
      exact absurd ⟨g20.1, by omega⟩ g34
     exact ⟨j, ⟨j2, by rw [← hx]; exact hj⟩, by simp; omega, by4, by3⟩)
  | (refine ⟨i + 1, ⟨by omega, ?_⟩, by simp; omega, by4, by3⟩
     have hn : b.toNat ≠ 35 := by omega
     rw [(hb g20.1).2.1, ovr_blank _ hn (g20.2.resolve_right hn)] at hu
     omega)
 refine Zt V (Zz ?_)
 apply Xm [1, 2, 3, 25, 26, 27, 28, 29, 30, 31, 32, 33, 34, 35, 36] (σ := Nat) (fun zz => match zz with | j => [(1, .val (.int .i64 j))]) (fun zz => match zz with | j => i ≤ j ∧ j ≤ s.size ∧ j + ovr true (rst s j) = at_ + ovr false (rst s at_)) (fun zz => match zz with | j => s.size - j) (i)
 ·repeat' (first | exact Ui | apply Ug rfl | apply Uh rfl)
 ·exact ⟨Nat.le_refl _, hi, by rw [← hu, (hb g20.1).2.1, show b.toNat = 35 by omega, ovr_35]⟩
 ·exact by4
 rintro j hI
 try dsimp only [List.cons_append, List.nil_append] at hI ⊢
 obtain ⟨j1, j2, hj⟩ := hI
 refine Zg (Zg ?_)
 obtain ⟨d, hd⟩ := byteAt_ s j
 refine Xl 34 (j < s.size ∧ d.toNat ≠ 10) ?_ _ _ V ?_
 ·skip
  refine Za 25 V V V (Zd V V (Za 26 V V V (Zd V V (Za 27 V V V (Xs V Ws V (Za 28 V V V (Yu V V V ?_))))))); intro c28 h28
  refine Za 29 V V V (Zd V V ?_)
  rcases Zi h28 with ⟨rfl, g28⟩ | ⟨rfl, g28⟩
  ·skip
   refine Zk 30 V V V V V (Zk 31 V V V V V (Zk 32 V V V V V (Zk 33 V V V V V (Za 34 V V V (Zn V V V (Vs (Ud V ?_ by5 by3)))))))
   simp_all; omega
  skip
  refine Zl 30 V V V V V (Zd V V (Zl 31 V V V V V (Zd V V (Zl 32 V V V V V (Xg V Ws V V V ((hd (by omega)).1) ?_)))))
  refine Zl 33 V V V V V (Xq V V V ?_); intro c33 h33
  refine Za 34 V V V (Zn V V V (Vs (Ud V ?_ by5 by3)))
  simp_all; omega
 intro c34 h34
 refine Zb ?_
 rcases Zi h34 with ⟨rfl, g34⟩ | ⟨rfl, g34⟩
 ·refine Zr V (Xc (Xe (Xv (Xd (Yt (Yz ?_))))))
  first
  | (have hx := over_exit hd g34
     have hij : i < j := by
      rcases Nat.lt_or_ge i j with q | q
      ·exact q
      have : j = i := by omega
      subst this
      have e := (hd g20.1).1.symm.trans (hb g20.1).1
      cases e
      exact absurd ⟨g20.1, by omega⟩ g34
     exact ⟨j, ⟨j2, by rw [← hx]; exact hj⟩, by simp; omega, by4, by3⟩)
  | (refine ⟨i + 1, ⟨by omega, ?_⟩, by simp; omega, by4, by3⟩
     have hn : b.toNat ≠ 35 := by omega
     rw [(hb g20.1).2.1, ovr_blank _ hn (g20.2.resolve_right hn)] at hu
     omega)
 refine Zt V (Zv (Zb (Zz (Zc (Za 35 V V V (Zd V V (Za 36 V V V (Yx V V V (Uj _ (by omega)) ?_))))))))
 refine Za 1 V V V (Ze V V (Vs (Yt (Yz ?_))))
 refine ⟨j + 1, ⟨by omega, by omega, ?_⟩, by simp; omega, by4, by3⟩
 rw [(hd g34.1).2.1, ovr_n10 _ g34.2] at hj
 omega
theorem among_c (s : ByteArray) (l : List ByteArray) : BCall Tryz.prog 130 [.val (.string s), .seq 1 (strs l)] (amongB s l = true) := by
 have hl := Xt l
 refine Zw Tryz.func130 V (by kernel_rfl) V (Uf V) ?_
 refine Yf ?_
 refine c_lens (t := 1) V (.seq _ _) (fun hmax => ?_)
 refine Zg (Zc (Za 4 V V V (Ze V V (Vs (Zb (Zg (Zg (Zc (Za 5 V V V (Ze V V (Vs (Zb (Zz ?_)))))))))))))
 refine c_loop (σ := Nat) (fun zz => match zz with | i => [(0, .val (.string s)), (1, .seq 1 (strs l)), (5, .val (.int .i64 i))]) (fun zz => match zz with | i => []) (fun zz => match zz with | i => i ≤ l.length ∧ amongB s l = amongB s (l.drop i)) (fun zz => match zz with | i => l.length - i) (0) ?_ ?_ ?_ ?_
 ·exact ⟨Nat.zero_le _, V⟩
 ·exact by4
 ·exact by3
 rintro i hI
 try dsimp only [List.cons_append, List.nil_append] at hI ⊢
 obtain ⟨hi, hu⟩ := hI
 refine Zg (Zg (Zc (Za 6 V V V (Zd V V (Za 7 V V V (Zd V V ?_))))))
 refine Za 8 V V V (Yy V tu_68 V (.seq _ _) (fun n8 => ?_))
 refine Za 9 V V V (Yu V V V ?_); intro c9 h9
 refine Vs (Zb ?_)
 rcases Zi h9 with ⟨rfl, g9⟩ | ⟨rfl, g9⟩
 ·refine Zr V (Xc (Xe (Xv (Xd (Zb (Zg (Zc (Za 4 V V V (Ze V V (Vs (Zb (Ya ?_))))))))))))
  exact Yh V V (Vz _) by3 ⟨⟨_, iff_f (by rw [hu, List.drop_eq_nil_of_le (by omega)]; simp [amongB]), V⟩, V⟩
 refine Zt V (Zv (Zb (Zg (Zz (Zg ?_)))))
 obtain ⟨x, hx⟩ := Yw (l := l) (i := i) (by omega)
 have hcx := strs_get hx
 have hd : l.drop i = x :: l.drop (i + 1) := by
  obtain ⟨h1, h2⟩ := List.getElem?_eq_some_iff.1 hx
  rw [List.drop_eq_getElem_cons h1, h2]
 refine Zc (Za 12 V V V (Zd V V (Za 13 V V V (Zd V V (Za 14 V V V (Yd V te_68 V (.seq _ _) V V (by assumption) ?_))))))
 refine Za 15 V V V (Zo V Xb V V (Za 16 V V V (Zd V V (Za 17 V V V (Xx V V V ?_))))); intro c17 h17
 refine Vs (Zb ?_)
 rcases Zi h17 with ⟨rfl, g17⟩ | ⟨rfl, g17⟩
 ·refine Zr V (Zv (Yt (Zb (Zc (Za 10 V V V (Zd V V (Za 11 V V V (Yx V V V (Uj _ (by omega)) ?_))))))))
  refine Za 5 V V V (Ze V V (Vs (Yz ?_)))
  exact ⟨i + 1, ⟨by omega, by rw [hu, hd]; simp [amongB]; intro q; contradiction⟩, by simp; omega, by4, by3⟩
 refine Zt V (Zg (Zc (Za 4 V V V (Ze V V (Vs (Zb (Ya ?_)))))))
 exact Yh V V (Vz _) by3 ⟨⟨_, iff_t (by rw [hu, hd]; simp [amongB]; exact .inl (by assumption)), V⟩, V⟩
theorem Key_c (s : ByteArray) : BCall Tryz.prog 122 [.val (.string s)] (keyT s = true) := by
 have H := among_c s keysL
 rw [show amongB s keysL = keyT s from rfl] at H
 simp only [strs, keysL, List.map_cons, List.map_nil] at H
 refine Zw Tryz.func122 V (by kernel_rfl) V (Uf V) ?_
 refine Yf (Zg (Zc (Za 2 V V V (Ze V V (Vs (Zb (Zg (Zc (Za 3 V V V (Zd V V (Za 4 V V V (Ye (xs := [.const (.string ⟨#[100, 97, 116, 97]⟩), .const (.string ⟨#[99, 108, 97, 115, 115]⟩), .const (.string ⟨#[105, 110, 115, 116, 97, 110, 99, 101]⟩), .const (.string ⟨#[102, 114, 111, 109]⟩), .const (.string ⟨#[119, 104, 101, 114, 101]⟩), .const (.string ⟨#[101, 110, 100]⟩), .const (.string ⟨#[100, 101, 114, 105, 118, 105, 110, 103]⟩), .const (.string ⟨#[100, 101, 102]⟩), .const (.string ⟨#[108, 101, 116]⟩), .const (.string ⟨#[114, 101, 99]⟩), .const (.string ⟨#[97, 110, 100]⟩), .const (.string ⟨#[105, 110]⟩), .const (.string ⟨#[99, 97, 115, 101]⟩), .const (.string ⟨#[111, 102]⟩), .const (.string ⟨#[105, 102]⟩), .const (.string ⟨#[116, 104, 101, 110]⟩), .const (.string ⟨#[101, 108, 115, 101]⟩)]) el_68 V V V V V V (Uf V) ?_))))))))))))
 refine Za 5 V V V (Yg (xs := [.tmp 3, .tmp 4]) V V (H) by1 ?_); intro c5 h5
 exact Za 2 V V V (Ze V V (Vs (Zb (Ya (Yh V V (Vz _) by3 ⟨⟨_, h5, V⟩, V⟩)))))
theorem Mark_c (s : ByteArray) : BCall Tryz.prog 121 [.val (.string s)] (markT s = true) := by
 have H := among_c s marksL
 rw [show amongB s marksL = markT s from rfl] at H
 simp only [strs, marksL, List.map_cons, List.map_nil] at H
 refine Zw Tryz.func121 V (by kernel_rfl) V (Uf V) ?_
 refine Yf (Zg (Zc (Za 2 V V V (Ze V V (Vs (Zb (Zg (Zc (Za 3 V V V (Zd V V (Za 4 V V V (Ye (xs := [.const (.string ⟨#[40]⟩), .const (.string ⟨#[41]⟩), .const (.string ⟨#[44]⟩), .const (.string ⟨#[59]⟩), .const (.string ⟨#[92]⟩), .const (.string ⟨#[95]⟩), .const (.string ⟨#[61]⟩), .const (.string ⟨#[45, 62]⟩), .const (.string ⟨#[124]⟩), .const (.string ⟨#[58]⟩)]) el_68 V V V V V V (Uf V) ?_))))))))))))
 refine Za 5 V V V (Yg (xs := [.tmp 3, .tmp 4]) V V (H) by1 ?_); intro c5 h5
 exact Za 2 V V V (Ze V V (Vs (Zb (Ya (Yh V V (Vz _) by3 ⟨⟨_, h5, V⟩, V⟩)))))
theorem utf_0 {c : Nat} (h : c < 192 ∨ 248 ≤ c) : utfN c = 0 := by unfold utfN; repeat' split <;> try omega
theorem utf_2 {c : Nat} (h1 : 192 ≤ c) (h2 : c < 224) : utfN c = 2 ∧ utfV c = c - 192 ∧ utfM c = 128 := by
 unfold utfN utfV utfM; simp only [if_neg (show ¬ c < 192 by omega), if_pos h2, and_self]
theorem utf_3 {c : Nat} (h1 : 224 ≤ c) (h2 : c < 240) : utfN c = 3 ∧ utfV c = c - 224 ∧ utfM c = 2048 := by
 unfold utfN utfV utfM; simp only [if_neg (show ¬ c < 192 by omega), if_neg (show ¬ c < 224 by omega), if_pos h2, and_self]
theorem utf_4 {c : Nat} (h1 : 240 ≤ c) (h2 : c < 248) : utfN c = 4 ∧ utfV c = c - 240 ∧ utfM c = 65536 := by
 unfold utfN utfV utfM; simp only [if_neg (show ¬ c < 192 by omega), if_neg (show ¬ c < 224 by omega), if_neg (show ¬ c < 240 by omega), if_pos h2, and_self]
def utfE (m : Int) (n : Nat) : Option Int → Nat
 | none => 0
 | some v => if v < m ∨ 1114111 < v ∨ (55296 ≤ v ∧ v ≤ 57343) then 0 else n
theorem utfL_go {c : Nat} {l : List Nat} (h1 : ¬ c < 128) (h2 : ¬ (utfN c = 0 ∨ l.length + 1 < utfN c)) : utfL (c :: l) = utfE (utfM c) (utfN c) (cont (utfN c - 1) (utfV c) l) := by
 rw [utfL_cons, if_neg h1, if_neg h2]
 cases cont (utfN c - 1) (utfV c) l <;> rfl
theorem utfL_no {c : Nat} {l : List Nat} (h1 : ¬ c < 128) (h2 : utfN c = 0 ∨ l.length + 1 < utfN c) : utfL (c :: l) = 0 := by
 rw [utfL_cons, if_neg h1, if_pos h2]
theorem pow_mono_ (i : Nat) (h : i ≤ 4) (h1 : 1 ≤ i) : (64 : Int) ^ (i - 1) ≤ 262144 ∧ (64 : Int) ^ (i + 1 - 1) = 64 * 64 ^ (i - 1) := by
 rcases (by omega : i = 1 ∨ i = 2 ∨ i = 3 ∨ i = 4) with rfl | rfl | rfl | rfl <;> decide
theorem Utf_no (s : ByteArray) (hs : s.size ≤ 60000) (at_ : Nat) (ha : at_ < s.size) (b : UInt8) (hb : s[at_]? = some b) (hlt : b.toNat < 256) (hq : b.toNat < 192 ∨ 248 ≤ b.toNat) : PCall Tryz.prog 112 [.val (.string s), .val (.int .i64 at_)] (.val (.int .i64 (utfL (b.toNat :: rst s (at_ + 1)) : Nat))) := by
 have hn := utf_0 hq
 refine Zw Tryz.func112 V (by kernel_rfl) V (Uf V) ?_
 refine Yf (Zg (Zc (Za 4 V V V (Ze V V (Vs (Zb (Zg (Zc (Za 11 V V V (Zd V V (Za 12 V V V (Zd V V (Za 13 V V V (Xg V Ws V V V (hb) (Za 14 V V V (op_convert V tu_5 tu_3 V (Uj _ (by omega)) ?_))))))))))))))))
 refine Za 5 V V V (Ze V V (Vs (Zb (Zg (Zc (Za 6 V V V (Ze V V (Vs (Zb (Zg (Zc (Za 7 V V V (Ze V V (Vs (Zb (Zg (Zc (Za 8 V V V (Ze V V (Vs (Zb (Zg (Zg (Zc (Za 15 V V V (Zd V V (Za 16 V V V (Yu V V V ?_)))))))))))))))))))))))))))); intro c16 h16
 refine Vs (Zb ?_)
 rcases Zi h16 with ⟨rfl, g16⟩ | ⟨rfl, g16⟩
 ·refine Zr V (Zv (Zb (Zg (Zg (Xl 22 (192 ≤ b.toNat ∧ b.toNat < 224) ?_ _ _ V ?_)))))
  ·skip
   refine Za 17 V V V (Zd V V (Za 18 V V V (Wa V V V ?_))); intro c18 h18
   refine Za 19 V V V (Zd V V ?_)
   rcases Zi h18 with ⟨rfl, g18⟩ | ⟨rfl, g18⟩
   ·skip
    refine Zk 20 V V V V V (Zk 21 V V V V V (Za 22 V V V (Zn V V V (Vs (Ud V ?_ by5 by3)))))
    simp_all; omega
   skip
   refine Zl 20 V V V V V (Zd V V (Zl 21 V V V V V (Yu V V V ?_))); intro c21 h21
   refine Za 22 V V V (Zn V V V (Vs (Ud V ?_ by5 by3)))
   simp_all; omega
  intro c22 h22
  refine Zb ?_
  rcases Zi h22 with ⟨rfl, g22⟩ | ⟨rfl, g22⟩
  ·refine Zr V (Zv (Zb (Zg (Zg (Xl 30 (224 ≤ b.toNat ∧ b.toNat < 240) ?_ _ _ V ?_)))))
   ·skip
    refine Za 25 V V V (Zd V V (Za 26 V V V (Wa V V V ?_))); intro c26 h26
    refine Za 27 V V V (Zd V V ?_)
    rcases Zi h26 with ⟨rfl, g26⟩ | ⟨rfl, g26⟩
    ·skip
     refine Zk 28 V V V V V (Zk 29 V V V V V (Za 30 V V V (Zn V V V (Vs (Ud V ?_ by5 by3)))))
     simp_all; omega
    skip
    refine Zl 28 V V V V V (Zd V V (Zl 29 V V V V V (Yu V V V ?_))); intro c29 h29
    refine Za 30 V V V (Zn V V V (Vs (Ud V ?_ by5 by3)))
    simp_all; omega
   intro c30 h30
   refine Zb ?_
   rcases Zi h30 with ⟨rfl, g30⟩ | ⟨rfl, g30⟩
   ·refine Zr V (Zv (Zb (Zg (Zg (Xl 38 (240 ≤ b.toNat ∧ b.toNat < 248) ?_ _ _ V ?_)))))
    ·skip
     refine Za 33 V V V (Zd V V (Za 34 V V V (Wa V V V ?_))); intro c34 h34
     refine Za 35 V V V (Zd V V ?_)
     rcases Zi h34 with ⟨rfl, g34⟩ | ⟨rfl, g34⟩
     ·skip
      refine Zk 36 V V V V V (Zk 37 V V V V V (Za 38 V V V (Zn V V V (Vs (Ud V ?_ by5 by3)))))
      simp_all; omega
     skip
     refine Zl 36 V V V V V (Zd V V (Zl 37 V V V V V (Yu V V V ?_))); intro c37 h37
     refine Za 38 V V V (Zn V V V (Vs (Ud V ?_ by5 by3)))
     simp_all; omega
    intro c38 h38
    refine Zb ?_
    rcases Zi h38 with ⟨rfl, g38⟩ | ⟨rfl, g38⟩
    ·refine Zr V (Zv (Zb (Zg (Zg (Xl 50 (True) ?_ _ _ V ?_)))))
     ·skip
      refine Za 41 V V V (Zd V V (Za 42 V V V (Yr V V V ?_))); intro c42 h42
      refine Za 43 V V V (Zd V V ?_)
      rcases Zi h42 with ⟨rfl, g42⟩ | ⟨rfl, g42⟩
      ·skip
       refine Zl 44 V V V V V (Zd V V (Zl 45 V V V V V (Zd V V (Zl 46 V V V V V (Yx V V V (Uj _ (by omega)) ?_)))))
       refine Zl 47 V V V V V (Zd V V (Zl 48 V V V V V (Xs V Ws V (Zl 49 V V V V V (Ww V V V ?_))))); intro c49 h49
       refine Za 50 V V V (Zn V V V (Vs (Ud V ?_ by5 by3)))
       simp_all; done
      skip
      refine Zk 44 V V V V V (Zk 45 V V V V V (Zk 46 V V V V V (Zk 47 V V V V V (Zk 48 V V V V V (Zk 49 V V V V V (Za 50 V V V (Zn V V V (Vs (Ud V ?_ by5 by3)))))))))
      simp_all; done
     intro c50 h50
     refine Zb ?_
     rcases Zi h50 with ⟨rfl, g50⟩ | ⟨rfl, g50⟩
     ·exact absurd trivial g50
     refine Zt V (Zg (Zc (Za 4 V V V (Ze V V (Vs (Zb (Ya ?_)))))))
     exact Yh V V (Le.inteq (by rw [utfL_no (c := b.toNat) (l := rst s (at_ + 1)) (by omega) (.inl hn)]; rfl)) by3 ⟨V, V⟩
    omega
   omega
  omega
 refine Zt V (Zg (Zc (Za 4 V V V (Ze V V (Vs (Zb (Ya ?_)))))))
 exact Yh V V (Le.inteq (by rw [utfL_cons, if_pos (by omega)]; rfl)) by3 ⟨V, V⟩
theorem Utf_2 (s : ByteArray) (hs : s.size ≤ 60000) (at_ : Nat) (ha : at_ < s.size) (b : UInt8) (hb : s[at_]? = some b) (q1 : 192 ≤ b.toNat) (q2 : b.toNat < 224) : PCall Tryz.prog 112 [.val (.string s), .val (.int .i64 at_)] (.val (.int .i64 (utfL (b.toNat :: rst s (at_ + 1)) : Nat))) := by
 have hl := rst_len s (at_ + 1)
 obtain ⟨hn, hv, hm⟩ := utf_2 q1 q2
 have hno := utfL_no (c := b.toNat) (l := rst s (at_ + 1)) (by omega)
 have hgo := utfL_go (c := b.toNat) (l := rst s (at_ + 1)) (by omega)
 rw [hn, hl] at hno
 rw [hn, hm, hv, hl] at hgo
 clear hn hv hm
 refine Zw Tryz.func112 V (by kernel_rfl) V (Uf V) ?_
 refine Yf (Zg (Zc (Za 4 V V V (Ze V V (Vs (Zb (Zg (Zc (Za 11 V V V (Zd V V (Za 12 V V V (Zd V V (Za 13 V V V (Xg V Ws V V V (hb) (Za 14 V V V (op_convert V tu_5 tu_3 V (Uj _ (by omega)) ?_))))))))))))))))
 refine Za 5 V V V (Ze V V (Vs (Zb (Zg (Zc (Za 6 V V V (Ze V V (Vs (Zb (Zg (Zc (Za 7 V V V (Ze V V (Vs (Zb (Zg (Zc (Za 8 V V V (Ze V V (Vs (Zb (Zg (Zg (Zc (Za 15 V V V (Zd V V (Za 16 V V V (Yu V V V ?_)))))))))))))))))))))))))))); intro c16 h16
 refine Vs (Zb ?_)
 rcases Zi h16 with ⟨rfl, g16⟩ | ⟨rfl, g16⟩
 ·refine Zr V (Zv (Zb (Zg (Zg (Xl 22 (192 ≤ b.toNat ∧ b.toNat < 224) ?_ _ _ V ?_)))))
  ·skip
   refine Za 17 V V V (Zd V V (Za 18 V V V (Wa V V V ?_))); intro c18 h18
   refine Za 19 V V V (Zd V V ?_)
   rcases Zi h18 with ⟨rfl, g18⟩ | ⟨rfl, g18⟩
   ·skip
    refine Zk 20 V V V V V (Zk 21 V V V V V (Za 22 V V V (Zn V V V (Vs (Ud V ?_ by5 by3)))))
    simp_all; omega
   skip
   refine Zl 20 V V V V V (Zd V V (Zl 21 V V V V V (Yu V V V ?_))); intro c21 h21
   refine Za 22 V V V (Zn V V V (Vs (Ud V ?_ by5 by3)))
   simp_all; omega
  intro c22 h22
  refine Zb ?_
  rcases Zi h22 with ⟨rfl, g22⟩ | ⟨rfl, g22⟩
  ·omega
  refine Zt V (Zg (Zc (Za 6 V V V (Ze V V (Vs (Zb (Zg (Zc (Za 23 V V V (Zd V V (Za 24 V V V (op_sub V V V (Uj _ (by omega)) ?_))))))))))))
  refine Za 7 V V V (Ze V V (Vs (Zb (Zc (Za 8 V V V (Ze V V (Vs (Zb (Zg (Zg (Xl 30 (224 ≤ b.toNat ∧ b.toNat < 240) ?_ _ _ V ?_)))))))))))
  ·skip
   refine Za 25 V V V (Zd V V (Za 26 V V V (Wa V V V ?_))); intro c26 h26
   refine Za 27 V V V (Zd V V ?_)
   rcases Zi h26 with ⟨rfl, g26⟩ | ⟨rfl, g26⟩
   ·skip
    refine Zk 28 V V V V V (Zk 29 V V V V V (Za 30 V V V (Zn V V V (Vs (Ud V ?_ by5 by3)))))
    simp_all; omega
   skip
   refine Zl 28 V V V V V (Zd V V (Zl 29 V V V V V (Yu V V V ?_))); intro c29 h29
   refine Za 30 V V V (Zn V V V (Vs (Ud V ?_ by5 by3)))
   simp_all; omega
  intro c30 h30
  refine Zb ?_
  rcases Zi h30 with ⟨rfl, g30⟩ | ⟨rfl, g30⟩
  ·refine Zr V (Zv (Zb (Zg (Zg (Xl 38 (240 ≤ b.toNat ∧ b.toNat < 248) ?_ _ _ V ?_)))))
   ·skip
    refine Za 33 V V V (Zd V V (Za 34 V V V (Wa V V V ?_))); intro c34 h34
    refine Za 35 V V V (Zd V V ?_)
    rcases Zi h34 with ⟨rfl, g34⟩ | ⟨rfl, g34⟩
    ·skip
     refine Zk 36 V V V V V (Zk 37 V V V V V (Za 38 V V V (Zn V V V (Vs (Ud V ?_ by5 by3)))))
     simp_all; omega
    skip
    refine Zl 36 V V V V V (Zd V V (Zl 37 V V V V V (Yu V V V ?_))); intro c37 h37
    refine Za 38 V V V (Zn V V V (Vs (Ud V ?_ by5 by3)))
    simp_all; omega
   intro c38 h38
   refine Zb ?_
   rcases Zi h38 with ⟨rfl, g38⟩ | ⟨rfl, g38⟩
   ·refine Zr V (Zv (Zb (Zg (Zg (Xl 50 (s.size < at_ + 2) ?_ _ _ V ?_)))))
    ·skip
     refine Za 41 V V V (Zd V V (Za 42 V V V (Yr V V V ?_))); intro c42 h42
     refine Za 43 V V V (Zd V V ?_)
     rcases Zi h42 with ⟨rfl, g42⟩ | ⟨rfl, g42⟩
     ·skip
      refine Zl 44 V V V V V (Zd V V (Zl 45 V V V V V (Zd V V (Zl 46 V V V V V (Yx V V V (Uj _ (by omega)) ?_)))))
      refine Zl 47 V V V V V (Zd V V (Zl 48 V V V V V (Xs V Ws V (Zl 49 V V V V V (Ww V V V ?_))))); intro c49 h49
      refine Za 50 V V V (Zn V V V (Vs (Ud V ?_ by5 by3)))
      simp_all; omega
     skip
     refine Zk 44 V V V V V (Zk 45 V V V V V (Zk 46 V V V V V (Zk 47 V V V V V (Zk 48 V V V V V (Zk 49 V V V V V (Za 50 V V V (Zn V V V (Vs (Ud V ?_ by5 by3)))))))))
     simp_all; done
    intro c50 h50
    refine Zb ?_
    rcases Zi h50 with ⟨rfl, g50⟩ | ⟨rfl, g50⟩
    ·refine Zr V (Zv (Zb (Zg (Zg ?_))))
     have hU := hgo (by omega)
     refine c_le (al' := [(0, .val (.string s)), (1, .val (.int .i64 at_)), (6, .val (.int .i64 2)), (7, .val (.int .i64 ((b.toNat : Int) - 192))), (8, .val (.int .i64 128))]) by4 (Vt _) ?_
     refine Zc (Za 9 V V V (Ze V V (Vs (Zb (Zz ?_)))))
     apply Xm [2, 3, 4, 5, 7, 9, 10, 11, 12, 13, 14, 15, 16, 17, 18, 19, 20, 21, 22, 23, 24, 25, 26, 27, 28, 29, 30, 31, 32, 33, 34, 35, 36, 37, 38, 39, 40, 41, 42, 43, 44, 45, 46, 47, 48, 49, 50, 51, 52, 53, 54, 55, 56, 57, 58, 59, 60, 61, 62, 63, 64, 65, 66, 67, 68, 69, 70, 71, 72] (σ := Nat × Int) (fun zz => match zz with | (i, v) => [(7, .val (.int .i64 v)), (9, .val (.int .i64 i))]) (fun zz => match zz with | (i, v) => 1 ≤ i ∧ i ≤ 2 ∧ 0 ≤ v ∧ v + 1 ≤ 32 * 64 ^ (i - 1) ∧ cont (2 - 1) (b.toNat - 192) (rst s (at_ + 1)) = cont (2 - i) v (rst s (at_ + i))) (fun zz => match zz with | (i, v) => 2 - i) ((1, (b.toNat : Int) - 192))
     ·repeat' (first | exact Ui | apply Ug rfl | apply Uh rfl)
     ·refine ⟨Nat.le_refl _, by omega, by omega, ?_, V⟩
      show (b.toNat : Int) - 192 + 1 ≤ 32 * 64 ^ 0
      omega
     ·exact by4
     rintro ⟨i, v⟩ hI
     try dsimp only [List.cons_append, List.nil_append] at hI ⊢
     obtain ⟨h1, h2, h3, h4, hu⟩ := hI
     have hp := pow_mono_ i (by omega) h1
     refine Zg (Zg (Zc (Za 51 V V V (Zd V V (Za 52 V V V (Zd V V (Za 53 V V V (Yu V V V ?_)))))))); intro c53 h53
     refine Vs (Zb ?_)
     rcases Zi h53 with ⟨rfl, g53⟩ | ⟨rfl, g53⟩
     ·refine Zr V (Xc (Xe (Xv (Xd (Zb (Zg (Zg ?_)))))))
      have he : utfL (b.toNat :: rst s (at_ + 1)) = utfE 128 2 (some v) := by rw [hU, hu, show 2 - i = 0 by omega]; cases rst s (at_ + i) <;> rfl
      refine Xl 87 (v < 128 ∨ 1114111 < v ∨ (55296 ≤ v ∧ v ≤ 57343)) ?_ _ _ V ?_
      ·skip
       refine Za 73 V V V (Zd V V (Za 74 V V V (Zd V V (Za 75 V V V (Yu V V V ?_))))); intro c75 h75
       refine Za 76 V V V (Zd V V ?_)
       rcases Zi h75 with ⟨rfl, g75⟩ | ⟨rfl, g75⟩
       ·skip
        refine Zl 77 V V V V V (Zd V V (Zl 78 V V V V V (Ww V V V ?_))); intro c78 h78
        refine Za 79 V V V (Zn V V V (Za 80 V V V (Zd V V ?_)))
        rcases Zi h78 with ⟨rfl, g78⟩ | ⟨rfl, g78⟩
        ·skip
         refine Zl 81 V V V V V (Zd V V (Zl 82 V V V V V (Wa V V V ?_))); intro c82 h82
         refine Zl 83 V V V V V (Zd V V ?_)
         rcases Zi h82 with ⟨rfl, g82⟩ | ⟨rfl, g82⟩
         ·skip
          refine Zk 84 V V V V V (Zk 85 V V V V V (Zl 86 V V V V V (Zn V V V (Za 87 V V V (Zn V V V (Vs (Ud V ?_ by5 by3)))))))
          simp_all; omega
         skip
         refine Zl 84 V V V V V (Zd V V (Zl 85 V V V V V (op_leq V V V ?_))); intro c85 h85
         refine Zl 86 V V V V V (Zn V V V (Za 87 V V V (Zn V V V (Vs (Ud V ?_ by5 by3)))))
         simp_all; omega
        skip
        refine Zk 81 V V V V V (Zk 82 V V V V V (Zk 83 V V V V V (Yj 84 V V V V V (Yj 85 V V V V V (Zk 86 V V V V V (Za 87 V V V (Zn V V V (Vs (Ud V ?_ by5 by3)))))))))
        simp_all; done
       skip
       refine Zk 77 V V V V V (Zk 78 V V V V V (Za 79 V V V (Zn V V V (Za 80 V V V (Zd V V (Zk 81 V V V V V (Zk 82 V V V V V (Zk 83 V V V V V (Yj 84 V V V V V (Yj 85 V V V V V (Zk 86 V V V V V (Za 87 V V V (Zn V V V (Vs ?_))))))))))))))
       refine Ud V ?_ by5 by3
       simp_all; done
      intro c87 h87
      refine Zb ?_
      rcases Zi h87 with ⟨rfl, g87⟩ | ⟨rfl, g87⟩
      ·refine Zr V (Zv (Zb (Zg (Zc (Za 88 V V V (Zd V V (Za 4 V V V (Ze V V (Vs (Zb (Ya ?_)))))))))))
       exact Yh V V (Le.inteq (by rw [he, utfE, if_neg g87]; rfl)) by3 ⟨V, V⟩
      refine Zt V (Zg (Zc (Za 4 V V V (Ze V V (Vs (Zb (Ya ?_)))))))
      exact Yh V V (Le.inteq (by rw [he, utfE, if_pos g87]; rfl)) by3 ⟨V, V⟩
     refine Zt V (Zv (Zb (Zg (Zz (Zg ?_)))))
     obtain ⟨d, hd, hrd, hdl⟩ := Wx (s := s) (i := at_ + i) (by omega)
     refine Zc (Za 56 V V V (Zd V V (Za 57 V V V (Zd V V (Za 58 V V V (Zd V V (Za 59 V V V (Yx V V V (Uj _ (by omega)) ?_))))))))
     refine Za 60 V V V (Xg (i := at_ + i) V Ws V V (by first | rfl | omega) (hd) ?_)
     refine Za 61 V V V (op_convert V tu_5 tu_3 V (Uj _ (by omega)) ?_)
     refine Za 10 V V V (Ze V V (Vs (Zb (Zg (Zg (Xl 67 (d.toNat < 128 ∨ 191 < d.toNat) ?_ _ _ V ?_))))))
     ·skip
      refine Za 62 V V V (Zd V V (Za 63 V V V (Yu V V V ?_))); intro c63 h63
      refine Za 64 V V V (Zd V V ?_)
      rcases Zi h63 with ⟨rfl, g63⟩ | ⟨rfl, g63⟩
      ·skip
       refine Zl 65 V V V V V (Zd V V (Zl 66 V V V V V (Ww V V V ?_))); intro c66 h66
       refine Za 67 V V V (Zn V V V (Vs (Ud V ?_ by5 by3)))
       simp_all; omega
      skip
      refine Zk 65 V V V V V (Zk 66 V V V V V (Za 67 V V V (Zn V V V (Vs (Ud V ?_ by5 by3)))))
      simp_all; omega
     intro c67 h67
     refine Zb ?_
     rcases Zi h67 with ⟨rfl, g67⟩ | ⟨rfl, g67⟩
     ·refine Zr V (Zv (Zb (Zc (Za 68 V V V (Zd V V (Za 69 V V V (op_mul V V V (Uj _ (by omega)) ?_)))))))
      refine Za 70 V V V (Zd V V (Za 71 V V V (Yx V V V (Uj _ (by omega)) ?_)))
      refine Za 72 V V V (op_sub V V V (Uj _ (by omega)) ?_)
      refine Za 7 V V V (Ze V V (Vs (Yt (Zb (Zc (Za 54 V V V (Zd V V (Za 55 V V V (Yx V V V (Uj _ (by omega)) ?_)))))))))
      refine Za 9 V V V (Ze V V (Vs (Yz ?_)))
      refine ⟨(i + 1, 64 * v + d.toNat - 128), ⟨by omega, by omega, by omega, ?_, ?_⟩, by simp; omega, by4, by3⟩
      ·rw [hp.2]; omega
      rw [hu, hrd, show 2 - i = (2 - (i + 1)) + 1 by omega, cont, if_neg (by omega)]; rfl
     refine Zt V (Zg (Zc (Za 4 V V V (Ze V V (Vs (Zb (Ya ?_)))))))
     exact Yh V V (Le.inteq (by rw [hU, hu, hrd, show 2 - i = (2 - i - 1) + 1 by omega, cont, if_pos (by omega)]; rfl)) by3 ⟨V, V⟩
    refine Zt V (Zg (Zc (Za 4 V V V (Ze V V (Vs (Zb (Ya ?_)))))))
    exact Yh V V (Le.inteq (by rw [hno (by omega)]; rfl)) by3 ⟨V, V⟩
   omega
  omega
 omega
theorem Utf_3 (s : ByteArray) (hs : s.size ≤ 60000) (at_ : Nat) (ha : at_ < s.size) (b : UInt8) (hb : s[at_]? = some b) (q1 : 224 ≤ b.toNat) (q2 : b.toNat < 240) : PCall Tryz.prog 112 [.val (.string s), .val (.int .i64 at_)] (.val (.int .i64 (utfL (b.toNat :: rst s (at_ + 1)) : Nat))) := by
 have hl := rst_len s (at_ + 1)
 obtain ⟨hn, hv, hm⟩ := utf_3 q1 q2
 have hno := utfL_no (c := b.toNat) (l := rst s (at_ + 1)) (by omega)
 have hgo := utfL_go (c := b.toNat) (l := rst s (at_ + 1)) (by omega)
 rw [hn, hl] at hno
 rw [hn, hm, hv, hl] at hgo
 clear hn hv hm
 refine Zw Tryz.func112 V (by kernel_rfl) V (Uf V) ?_
 refine Yf (Zg (Zc (Za 4 V V V (Ze V V (Vs (Zb (Zg (Zc (Za 11 V V V (Zd V V (Za 12 V V V (Zd V V (Za 13 V V V (Xg V Ws V V V (hb) (Za 14 V V V (op_convert V tu_5 tu_3 V (Uj _ (by omega)) ?_))))))))))))))))
 refine Za 5 V V V (Ze V V (Vs (Zb (Zg (Zc (Za 6 V V V (Ze V V (Vs (Zb (Zg (Zc (Za 7 V V V (Ze V V (Vs (Zb (Zg (Zc (Za 8 V V V (Ze V V (Vs (Zb (Zg (Zg (Zc (Za 15 V V V (Zd V V (Za 16 V V V (Yu V V V ?_)))))))))))))))))))))))))))); intro c16 h16
 refine Vs (Zb ?_)
 rcases Zi h16 with ⟨rfl, g16⟩ | ⟨rfl, g16⟩
 ·refine Zr V (Zv (Zb (Zg (Zg (Xl 22 (192 ≤ b.toNat ∧ b.toNat < 224) ?_ _ _ V ?_)))))
  ·skip
   refine Za 17 V V V (Zd V V (Za 18 V V V (Wa V V V ?_))); intro c18 h18
   refine Za 19 V V V (Zd V V ?_)
   rcases Zi h18 with ⟨rfl, g18⟩ | ⟨rfl, g18⟩
   ·skip
    refine Zk 20 V V V V V (Zk 21 V V V V V (Za 22 V V V (Zn V V V (Vs (Ud V ?_ by5 by3)))))
    simp_all; done
   skip
   refine Zl 20 V V V V V (Zd V V (Zl 21 V V V V V (Yu V V V ?_))); intro c21 h21
   refine Za 22 V V V (Zn V V V (Vs (Ud V ?_ by5 by3)))
   simp_all; omega
  intro c22 h22
  refine Zb ?_
  rcases Zi h22 with ⟨rfl, g22⟩ | ⟨rfl, g22⟩
  ·refine Zr V (Zv (Zb (Zg (Zg (Xl 30 (224 ≤ b.toNat ∧ b.toNat < 240) ?_ _ _ V ?_)))))
   ·skip
    refine Za 25 V V V (Zd V V (Za 26 V V V (Wa V V V ?_))); intro c26 h26
    refine Za 27 V V V (Zd V V ?_)
    rcases Zi h26 with ⟨rfl, g26⟩ | ⟨rfl, g26⟩
    ·skip
     refine Zk 28 V V V V V (Zk 29 V V V V V (Za 30 V V V (Zn V V V (Vs (Ud V ?_ by5 by3)))))
     simp_all; omega
    skip
    refine Zl 28 V V V V V (Zd V V (Zl 29 V V V V V (Yu V V V ?_))); intro c29 h29
    refine Za 30 V V V (Zn V V V (Vs (Ud V ?_ by5 by3)))
    simp_all; omega
   intro c30 h30
   refine Zb ?_
   rcases Zi h30 with ⟨rfl, g30⟩ | ⟨rfl, g30⟩
   ·omega
   refine Zt V (Zg (Zc (Za 6 V V V (Ze V V (Vs (Zb (Zg (Zc (Za 31 V V V (Zd V V (Za 32 V V V (op_sub V V V (Uj _ (by omega)) ?_))))))))))))
   refine Za 7 V V V (Ze V V (Vs (Zb (Zc (Za 8 V V V (Ze V V (Vs (Zb (Zg (Zg (Xl 38 (240 ≤ b.toNat ∧ b.toNat < 248) ?_ _ _ V ?_)))))))))))
   ·skip
    refine Za 33 V V V (Zd V V (Za 34 V V V (Wa V V V ?_))); intro c34 h34
    refine Za 35 V V V (Zd V V ?_)
    rcases Zi h34 with ⟨rfl, g34⟩ | ⟨rfl, g34⟩
    ·skip
     refine Zk 36 V V V V V (Zk 37 V V V V V (Za 38 V V V (Zn V V V (Vs (Ud V ?_ by5 by3)))))
     simp_all; omega
    skip
    refine Zl 36 V V V V V (Zd V V (Zl 37 V V V V V (Yu V V V ?_))); intro c37 h37
    refine Za 38 V V V (Zn V V V (Vs (Ud V ?_ by5 by3)))
    simp_all; omega
   intro c38 h38
   refine Zb ?_
   rcases Zi h38 with ⟨rfl, g38⟩ | ⟨rfl, g38⟩
   ·refine Zr V (Zv (Zb (Zg (Zg (Xl 50 (s.size < at_ + 3) ?_ _ _ V ?_)))))
    ·skip
     refine Za 41 V V V (Zd V V (Za 42 V V V (Yr V V V ?_))); intro c42 h42
     refine Za 43 V V V (Zd V V ?_)
     rcases Zi h42 with ⟨rfl, g42⟩ | ⟨rfl, g42⟩
     ·skip
      refine Zl 44 V V V V V (Zd V V (Zl 45 V V V V V (Zd V V (Zl 46 V V V V V (Yx V V V (Uj _ (by omega)) ?_)))))
      refine Zl 47 V V V V V (Zd V V (Zl 48 V V V V V (Xs V Ws V (Zl 49 V V V V V (Ww V V V ?_))))); intro c49 h49
      refine Za 50 V V V (Zn V V V (Vs (Ud V ?_ by5 by3)))
      simp_all; omega
     skip
     refine Zk 44 V V V V V (Zk 45 V V V V V (Zk 46 V V V V V (Zk 47 V V V V V (Zk 48 V V V V V (Zk 49 V V V V V (Za 50 V V V (Zn V V V (Vs (Ud V ?_ by5 by3)))))))))
     simp_all; done
    intro c50 h50
    refine Zb ?_
    rcases Zi h50 with ⟨rfl, g50⟩ | ⟨rfl, g50⟩
    ·refine Zr V (Zv (Zb (Zg (Zg ?_))))
     have hU := hgo (by omega)
     refine c_le (al' := [(0, .val (.string s)), (1, .val (.int .i64 at_)), (6, .val (.int .i64 3)), (7, .val (.int .i64 ((b.toNat : Int) - 224))), (8, .val (.int .i64 2048))]) by4 (Vt _) ?_
     refine Zc (Za 9 V V V (Ze V V (Vs (Zb (Zz ?_)))))
     apply Xm [2, 3, 4, 5, 7, 9, 10, 11, 12, 13, 14, 15, 16, 17, 18, 19, 20, 21, 22, 23, 24, 25, 26, 27, 28, 29, 30, 31, 32, 33, 34, 35, 36, 37, 38, 39, 40, 41, 42, 43, 44, 45, 46, 47, 48, 49, 50, 51, 52, 53, 54, 55, 56, 57, 58, 59, 60, 61, 62, 63, 64, 65, 66, 67, 68, 69, 70, 71, 72] (σ := Nat × Int) (fun zz => match zz with | (i, v) => [(7, .val (.int .i64 v)), (9, .val (.int .i64 i))]) (fun zz => match zz with | (i, v) => 1 ≤ i ∧ i ≤ 3 ∧ 0 ≤ v ∧ v + 1 ≤ 32 * 64 ^ (i - 1) ∧ cont (3 - 1) (b.toNat - 224) (rst s (at_ + 1)) = cont (3 - i) v (rst s (at_ + i))) (fun zz => match zz with | (i, v) => 3 - i) ((1, (b.toNat : Int) - 224))
     ·repeat' (first | exact Ui | apply Ug rfl | apply Uh rfl)
     ·refine ⟨Nat.le_refl _, by omega, by omega, ?_, V⟩
      show (b.toNat : Int) - 224 + 1 ≤ 32 * 64 ^ 0
      omega
     ·exact by4
     rintro ⟨i, v⟩ hI
     try dsimp only [List.cons_append, List.nil_append] at hI ⊢
     obtain ⟨h1, h2, h3, h4, hu⟩ := hI
     have hp := pow_mono_ i (by omega) h1
     refine Zg (Zg (Zc (Za 51 V V V (Zd V V (Za 52 V V V (Zd V V (Za 53 V V V (Yu V V V ?_)))))))); intro c53 h53
     refine Vs (Zb ?_)
     rcases Zi h53 with ⟨rfl, g53⟩ | ⟨rfl, g53⟩
     ·refine Zr V (Xc (Xe (Xv (Xd (Zb (Zg (Zg ?_)))))))
      have he : utfL (b.toNat :: rst s (at_ + 1)) = utfE 2048 3 (some v) := by rw [hU, hu, show 3 - i = 0 by omega]; cases rst s (at_ + i) <;> rfl
      refine Xl 87 (v < 2048 ∨ 1114111 < v ∨ (55296 ≤ v ∧ v ≤ 57343)) ?_ _ _ V ?_
      ·skip
       refine Za 73 V V V (Zd V V (Za 74 V V V (Zd V V (Za 75 V V V (Yu V V V ?_))))); intro c75 h75
       refine Za 76 V V V (Zd V V ?_)
       rcases Zi h75 with ⟨rfl, g75⟩ | ⟨rfl, g75⟩
       ·skip
        refine Zl 77 V V V V V (Zd V V (Zl 78 V V V V V (Ww V V V ?_))); intro c78 h78
        refine Za 79 V V V (Zn V V V (Za 80 V V V (Zd V V ?_)))
        rcases Zi h78 with ⟨rfl, g78⟩ | ⟨rfl, g78⟩
        ·skip
         refine Zl 81 V V V V V (Zd V V (Zl 82 V V V V V (Wa V V V ?_))); intro c82 h82
         refine Zl 83 V V V V V (Zd V V ?_)
         rcases Zi h82 with ⟨rfl, g82⟩ | ⟨rfl, g82⟩
         ·skip
          refine Zk 84 V V V V V (Zk 85 V V V V V (Zl 86 V V V V V (Zn V V V (Za 87 V V V (Zn V V V (Vs (Ud V ?_ by5 by3)))))))
          simp_all; omega
         skip
         refine Zl 84 V V V V V (Zd V V (Zl 85 V V V V V (op_leq V V V ?_))); intro c85 h85
         refine Zl 86 V V V V V (Zn V V V (Za 87 V V V (Zn V V V (Vs (Ud V ?_ by5 by3)))))
         simp_all; omega
        skip
        refine Zk 81 V V V V V (Zk 82 V V V V V (Zk 83 V V V V V (Yj 84 V V V V V (Yj 85 V V V V V (Zk 86 V V V V V (Za 87 V V V (Zn V V V (Vs (Ud V ?_ by5 by3)))))))))
        simp_all; done
       skip
       refine Zk 77 V V V V V (Zk 78 V V V V V (Za 79 V V V (Zn V V V (Za 80 V V V (Zd V V (Zk 81 V V V V V (Zk 82 V V V V V (Zk 83 V V V V V (Yj 84 V V V V V (Yj 85 V V V V V (Zk 86 V V V V V (Za 87 V V V (Zn V V V (Vs ?_))))))))))))))
       refine Ud V ?_ by5 by3
       simp_all; done
      intro c87 h87
      refine Zb ?_
      rcases Zi h87 with ⟨rfl, g87⟩ | ⟨rfl, g87⟩
      ·refine Zr V (Zv (Zb (Zg (Zc (Za 88 V V V (Zd V V (Za 4 V V V (Ze V V (Vs (Zb (Ya ?_)))))))))))
       exact Yh V V (Le.inteq (by rw [he, utfE, if_neg g87]; rfl)) by3 ⟨V, V⟩
      refine Zt V (Zg (Zc (Za 4 V V V (Ze V V (Vs (Zb (Ya ?_)))))))
      exact Yh V V (Le.inteq (by rw [he, utfE, if_pos g87]; rfl)) by3 ⟨V, V⟩
     refine Zt V (Zv (Zb (Zg (Zz (Zg ?_)))))
     obtain ⟨d, hd, hrd, hdl⟩ := Wx (s := s) (i := at_ + i) (by omega)
     refine Zc (Za 56 V V V (Zd V V (Za 57 V V V (Zd V V (Za 58 V V V (Zd V V (Za 59 V V V (Yx V V V (Uj _ (by omega)) ?_))))))))
     refine Za 60 V V V (Xg (i := at_ + i) V Ws V V (by first | rfl | omega) (hd) ?_)
     refine Za 61 V V V (op_convert V tu_5 tu_3 V (Uj _ (by omega)) ?_)
     refine Za 10 V V V (Ze V V (Vs (Zb (Zg (Zg (Xl 67 (d.toNat < 128 ∨ 191 < d.toNat) ?_ _ _ V ?_))))))
     ·skip
      refine Za 62 V V V (Zd V V (Za 63 V V V (Yu V V V ?_))); intro c63 h63
      refine Za 64 V V V (Zd V V ?_)
      rcases Zi h63 with ⟨rfl, g63⟩ | ⟨rfl, g63⟩
      ·skip
       refine Zl 65 V V V V V (Zd V V (Zl 66 V V V V V (Ww V V V ?_))); intro c66 h66
       refine Za 67 V V V (Zn V V V (Vs (Ud V ?_ by5 by3)))
       simp_all; omega
      skip
      refine Zk 65 V V V V V (Zk 66 V V V V V (Za 67 V V V (Zn V V V (Vs (Ud V ?_ by5 by3)))))
      simp_all; omega
     intro c67 h67
     refine Zb ?_
     rcases Zi h67 with ⟨rfl, g67⟩ | ⟨rfl, g67⟩
     ·refine Zr V (Zv (Zb (Zc (Za 68 V V V (Zd V V (Za 69 V V V (op_mul V V V (Uj _ (by omega)) ?_)))))))
      refine Za 70 V V V (Zd V V (Za 71 V V V (Yx V V V (Uj _ (by omega)) ?_)))
      refine Za 72 V V V (op_sub V V V (Uj _ (by omega)) ?_)
      refine Za 7 V V V (Ze V V (Vs (Yt (Zb (Zc (Za 54 V V V (Zd V V (Za 55 V V V (Yx V V V (Uj _ (by omega)) ?_)))))))))
      refine Za 9 V V V (Ze V V (Vs (Yz ?_)))
      refine ⟨(i + 1, 64 * v + d.toNat - 128), ⟨by omega, by omega, by omega, ?_, ?_⟩, by simp; omega, by4, by3⟩
      ·rw [hp.2]; omega
      rw [hu, hrd, show 3 - i = (3 - (i + 1)) + 1 by omega, cont, if_neg (by omega)]; rfl
     refine Zt V (Zg (Zc (Za 4 V V V (Ze V V (Vs (Zb (Ya ?_)))))))
     exact Yh V V (Le.inteq (by rw [hU, hu, hrd, show 3 - i = (3 - i - 1) + 1 by omega, cont, if_pos (by omega)]; rfl)) by3 ⟨V, V⟩
    refine Zt V (Zg (Zc (Za 4 V V V (Ze V V (Vs (Zb (Ya ?_)))))))
    exact Yh V V (Le.inteq (by rw [hno (by omega)]; rfl)) by3 ⟨V, V⟩
   omega
  omega
 omega
theorem Utf_4 (s : ByteArray) (hs : s.size ≤ 60000) (at_ : Nat) (ha : at_ < s.size) (b : UInt8) (hb : s[at_]? = some b) (q1 : 240 ≤ b.toNat) (q2 : b.toNat < 248) : PCall Tryz.prog 112 [.val (.string s), .val (.int .i64 at_)] (.val (.int .i64 (utfL (b.toNat :: rst s (at_ + 1)) : Nat))) := by
 have hl := rst_len s (at_ + 1)
 obtain ⟨hn, hv, hm⟩ := utf_4 q1 q2
 have hno := utfL_no (c := b.toNat) (l := rst s (at_ + 1)) (by omega)
 have hgo := utfL_go (c := b.toNat) (l := rst s (at_ + 1)) (by omega)
 rw [hn, hl] at hno
 rw [hn, hm, hv, hl] at hgo
 clear hn hv hm
 refine Zw Tryz.func112 V (by kernel_rfl) V (Uf V) ?_
 refine Yf (Zg (Zc (Za 4 V V V (Ze V V (Vs (Zb (Zg (Zc (Za 11 V V V (Zd V V (Za 12 V V V (Zd V V (Za 13 V V V (Xg V Ws V V V (hb) (Za 14 V V V (op_convert V tu_5 tu_3 V (Uj _ (by omega)) ?_))))))))))))))))
 refine Za 5 V V V (Ze V V (Vs (Zb (Zg (Zc (Za 6 V V V (Ze V V (Vs (Zb (Zg (Zc (Za 7 V V V (Ze V V (Vs (Zb (Zg (Zc (Za 8 V V V (Ze V V (Vs (Zb (Zg (Zg (Zc (Za 15 V V V (Zd V V (Za 16 V V V (Yu V V V ?_)))))))))))))))))))))))))))); intro c16 h16
 refine Vs (Zb ?_)
 rcases Zi h16 with ⟨rfl, g16⟩ | ⟨rfl, g16⟩
 ·refine Zr V (Zv (Zb (Zg (Zg (Xl 22 (192 ≤ b.toNat ∧ b.toNat < 224) ?_ _ _ V ?_)))))
  ·skip
   refine Za 17 V V V (Zd V V (Za 18 V V V (Wa V V V ?_))); intro c18 h18
   refine Za 19 V V V (Zd V V ?_)
   rcases Zi h18 with ⟨rfl, g18⟩ | ⟨rfl, g18⟩
   ·skip
    refine Zk 20 V V V V V (Zk 21 V V V V V (Za 22 V V V (Zn V V V (Vs (Ud V ?_ by5 by3)))))
    simp_all; omega
   skip
   refine Zl 20 V V V V V (Zd V V (Zl 21 V V V V V (Yu V V V ?_))); intro c21 h21
   refine Za 22 V V V (Zn V V V (Vs (Ud V ?_ by5 by3)))
   simp_all; omega
  intro c22 h22
  refine Zb ?_
  rcases Zi h22 with ⟨rfl, g22⟩ | ⟨rfl, g22⟩
  ·refine Zr V (Zv (Zb (Zg (Zg (Xl 30 (224 ≤ b.toNat ∧ b.toNat < 240) ?_ _ _ V ?_)))))
   ·skip
    refine Za 25 V V V (Zd V V (Za 26 V V V (Wa V V V ?_))); intro c26 h26
    refine Za 27 V V V (Zd V V ?_)
    rcases Zi h26 with ⟨rfl, g26⟩ | ⟨rfl, g26⟩
    ·skip
     refine Zk 28 V V V V V (Zk 29 V V V V V (Za 30 V V V (Zn V V V (Vs (Ud V ?_ by5 by3)))))
     simp_all; done
    skip
    refine Zl 28 V V V V V (Zd V V (Zl 29 V V V V V (Yu V V V ?_))); intro c29 h29
    refine Za 30 V V V (Zn V V V (Vs (Ud V ?_ by5 by3)))
    simp_all; omega
   intro c30 h30
   refine Zb ?_
   rcases Zi h30 with ⟨rfl, g30⟩ | ⟨rfl, g30⟩
   ·refine Zr V (Zv (Zb (Zg (Zg (Xl 38 (240 ≤ b.toNat ∧ b.toNat < 248) ?_ _ _ V ?_)))))
    ·skip
     refine Za 33 V V V (Zd V V (Za 34 V V V (Wa V V V ?_))); intro c34 h34
     refine Za 35 V V V (Zd V V ?_)
     rcases Zi h34 with ⟨rfl, g34⟩ | ⟨rfl, g34⟩
     ·skip
      refine Zk 36 V V V V V (Zk 37 V V V V V (Za 38 V V V (Zn V V V (Vs (Ud V ?_ by5 by3)))))
      simp_all; omega
     skip
     refine Zl 36 V V V V V (Zd V V (Zl 37 V V V V V (Yu V V V ?_))); intro c37 h37
     refine Za 38 V V V (Zn V V V (Vs (Ud V ?_ by5 by3)))
     simp_all; omega
    intro c38 h38
    refine Zb ?_
    rcases Zi h38 with ⟨rfl, g38⟩ | ⟨rfl, g38⟩
    ·omega
    refine Zt V (Zg (Zc (Za 6 V V V (Ze V V (Vs (Zb (Zg (Zc (Za 39 V V V (Zd V V (Za 40 V V V (op_sub V V V (Uj _ (by omega)) ?_))))))))))))
    refine Za 7 V V V (Ze V V (Vs (Zb (Zc (Za 8 V V V (Ze V V (Vs (Zb (Zg (Zg (Xl 50 (s.size < at_ + 4) ?_ _ _ V ?_)))))))))))
    ·skip
     refine Za 41 V V V (Zd V V (Za 42 V V V (Yr V V V ?_))); intro c42 h42
     refine Za 43 V V V (Zd V V ?_)
     rcases Zi h42 with ⟨rfl, g42⟩ | ⟨rfl, g42⟩
     ·skip
      refine Zl 44 V V V V V (Zd V V (Zl 45 V V V V V (Zd V V (Zl 46 V V V V V (Yx V V V (Uj _ (by omega)) ?_)))))
      refine Zl 47 V V V V V (Zd V V (Zl 48 V V V V V (Xs V Ws V (Zl 49 V V V V V (Ww V V V ?_))))); intro c49 h49
      refine Za 50 V V V (Zn V V V (Vs (Ud V ?_ by5 by3)))
      simp_all; omega
     skip
     refine Zk 44 V V V V V (Zk 45 V V V V V (Zk 46 V V V V V (Zk 47 V V V V V (Zk 48 V V V V V (Zk 49 V V V V V (Za 50 V V V (Zn V V V (Vs (Ud V ?_ by5 by3)))))))))
     simp_all; done
    intro c50 h50
    refine Zb ?_
    rcases Zi h50 with ⟨rfl, g50⟩ | ⟨rfl, g50⟩
    ·refine Zr V (Zv (Zb (Zg (Zg ?_))))
     have hU := hgo (by omega)
     refine c_le (al' := [(0, .val (.string s)), (1, .val (.int .i64 at_)), (6, .val (.int .i64 4)), (7, .val (.int .i64 ((b.toNat : Int) - 240))), (8, .val (.int .i64 65536))]) by4 (Vt _) ?_
     refine Zc (Za 9 V V V (Ze V V (Vs (Zb (Zz ?_)))))
     apply Xm [2, 3, 4, 5, 7, 9, 10, 11, 12, 13, 14, 15, 16, 17, 18, 19, 20, 21, 22, 23, 24, 25, 26, 27, 28, 29, 30, 31, 32, 33, 34, 35, 36, 37, 38, 39, 40, 41, 42, 43, 44, 45, 46, 47, 48, 49, 50, 51, 52, 53, 54, 55, 56, 57, 58, 59, 60, 61, 62, 63, 64, 65, 66, 67, 68, 69, 70, 71, 72] (σ := Nat × Int) (fun zz => match zz with | (i, v) => [(7, .val (.int .i64 v)), (9, .val (.int .i64 i))]) (fun zz => match zz with | (i, v) => 1 ≤ i ∧ i ≤ 4 ∧ 0 ≤ v ∧ v + 1 ≤ 32 * 64 ^ (i - 1) ∧ cont (4 - 1) (b.toNat - 240) (rst s (at_ + 1)) = cont (4 - i) v (rst s (at_ + i))) (fun zz => match zz with | (i, v) => 4 - i) ((1, (b.toNat : Int) - 240))
     ·repeat' (first | exact Ui | apply Ug rfl | apply Uh rfl)
     ·refine ⟨Nat.le_refl _, by omega, by omega, ?_, V⟩
      show (b.toNat : Int) - 240 + 1 ≤ 32 * 64 ^ 0
      omega
     ·exact by4
     rintro ⟨i, v⟩ hI
     try dsimp only [List.cons_append, List.nil_append] at hI ⊢
     obtain ⟨h1, h2, h3, h4, hu⟩ := hI
     have hp := pow_mono_ i (by omega) h1
     refine Zg (Zg (Zc (Za 51 V V V (Zd V V (Za 52 V V V (Zd V V (Za 53 V V V (Yu V V V ?_)))))))); intro c53 h53
     refine Vs (Zb ?_)
     rcases Zi h53 with ⟨rfl, g53⟩ | ⟨rfl, g53⟩
     ·refine Zr V (Xc (Xe (Xv (Xd (Zb (Zg (Zg ?_)))))))
      have he : utfL (b.toNat :: rst s (at_ + 1)) = utfE 65536 4 (some v) := by rw [hU, hu, show 4 - i = 0 by omega]; cases rst s (at_ + i) <;> rfl
      refine Xl 87 (v < 65536 ∨ 1114111 < v ∨ (55296 ≤ v ∧ v ≤ 57343)) ?_ _ _ V ?_
      ·skip
       refine Za 73 V V V (Zd V V (Za 74 V V V (Zd V V (Za 75 V V V (Yu V V V ?_))))); intro c75 h75
       refine Za 76 V V V (Zd V V ?_)
       rcases Zi h75 with ⟨rfl, g75⟩ | ⟨rfl, g75⟩
       ·skip
        refine Zl 77 V V V V V (Zd V V (Zl 78 V V V V V (Ww V V V ?_))); intro c78 h78
        refine Za 79 V V V (Zn V V V (Za 80 V V V (Zd V V ?_)))
        rcases Zi h78 with ⟨rfl, g78⟩ | ⟨rfl, g78⟩
        ·skip
         refine Zl 81 V V V V V (Zd V V (Zl 82 V V V V V (Wa V V V ?_))); intro c82 h82
         refine Zl 83 V V V V V (Zd V V ?_)
         rcases Zi h82 with ⟨rfl, g82⟩ | ⟨rfl, g82⟩
         ·skip
          refine Zk 84 V V V V V (Zk 85 V V V V V (Zl 86 V V V V V (Zn V V V (Za 87 V V V (Zn V V V (Vs (Ud V ?_ by5 by3)))))))
          simp_all; omega
         skip
         refine Zl 84 V V V V V (Zd V V (Zl 85 V V V V V (op_leq V V V ?_))); intro c85 h85
         refine Zl 86 V V V V V (Zn V V V (Za 87 V V V (Zn V V V (Vs (Ud V ?_ by5 by3)))))
         simp_all; omega
        skip
        refine Zk 81 V V V V V (Zk 82 V V V V V (Zk 83 V V V V V (Yj 84 V V V V V (Yj 85 V V V V V (Zk 86 V V V V V (Za 87 V V V (Zn V V V (Vs (Ud V ?_ by5 by3)))))))))
        simp_all; done
       skip
       refine Zk 77 V V V V V (Zk 78 V V V V V (Za 79 V V V (Zn V V V (Za 80 V V V (Zd V V (Zk 81 V V V V V (Zk 82 V V V V V (Zk 83 V V V V V (Yj 84 V V V V V (Yj 85 V V V V V (Zk 86 V V V V V (Za 87 V V V (Zn V V V (Vs ?_))))))))))))))
       refine Ud V ?_ by5 by3
       simp_all; done
      intro c87 h87
      refine Zb ?_
      rcases Zi h87 with ⟨rfl, g87⟩ | ⟨rfl, g87⟩
      ·refine Zr V (Zv (Zb (Zg (Zc (Za 88 V V V (Zd V V (Za 4 V V V (Ze V V (Vs (Zb (Ya ?_)))))))))))
       exact Yh V V (Le.inteq (by rw [he, utfE, if_neg g87]; rfl)) by3 ⟨V, V⟩
      refine Zt V (Zg (Zc (Za 4 V V V (Ze V V (Vs (Zb (Ya ?_)))))))
      exact Yh V V (Le.inteq (by rw [he, utfE, if_pos g87]; rfl)) by3 ⟨V, V⟩
     refine Zt V (Zv (Zb (Zg (Zz (Zg ?_)))))
     obtain ⟨d, hd, hrd, hdl⟩ := Wx (s := s) (i := at_ + i) (by omega)
     refine Zc (Za 56 V V V (Zd V V (Za 57 V V V (Zd V V (Za 58 V V V (Zd V V (Za 59 V V V (Yx V V V (Uj _ (by omega)) ?_))))))))
     refine Za 60 V V V (Xg (i := at_ + i) V Ws V V (by first | rfl | omega) (hd) ?_)
     refine Za 61 V V V (op_convert V tu_5 tu_3 V (Uj _ (by omega)) ?_)
     refine Za 10 V V V (Ze V V (Vs (Zb (Zg (Zg (Xl 67 (d.toNat < 128 ∨ 191 < d.toNat) ?_ _ _ V ?_))))))
     ·skip
      refine Za 62 V V V (Zd V V (Za 63 V V V (Yu V V V ?_))); intro c63 h63
      refine Za 64 V V V (Zd V V ?_)
      rcases Zi h63 with ⟨rfl, g63⟩ | ⟨rfl, g63⟩
      ·skip
       refine Zl 65 V V V V V (Zd V V (Zl 66 V V V V V (Ww V V V ?_))); intro c66 h66
       refine Za 67 V V V (Zn V V V (Vs (Ud V ?_ by5 by3)))
       simp_all; omega
      skip
      refine Zk 65 V V V V V (Zk 66 V V V V V (Za 67 V V V (Zn V V V (Vs (Ud V ?_ by5 by3)))))
      simp_all; omega
     intro c67 h67
     refine Zb ?_
     rcases Zi h67 with ⟨rfl, g67⟩ | ⟨rfl, g67⟩
     ·refine Zr V (Zv (Zb (Zc (Za 68 V V V (Zd V V (Za 69 V V V (op_mul V V V (Uj _ (by omega)) ?_)))))))
      refine Za 70 V V V (Zd V V (Za 71 V V V (Yx V V V (Uj _ (by omega)) ?_)))
      refine Za 72 V V V (op_sub V V V (Uj _ (by omega)) ?_)
      refine Za 7 V V V (Ze V V (Vs (Yt (Zb (Zc (Za 54 V V V (Zd V V (Za 55 V V V (Yx V V V (Uj _ (by omega)) ?_)))))))))
      refine Za 9 V V V (Ze V V (Vs (Yz ?_)))
      refine ⟨(i + 1, 64 * v + d.toNat - 128), ⟨by omega, by omega, by omega, ?_, ?_⟩, by simp; omega, by4, by3⟩
      ·rw [hp.2]; omega
      rw [hu, hrd, show 4 - i = (4 - (i + 1)) + 1 by omega, cont, if_neg (by omega)]; rfl
     refine Zt V (Zg (Zc (Za 4 V V V (Ze V V (Vs (Zb (Ya ?_)))))))
     exact Yh V V (Le.inteq (by rw [hU, hu, hrd, show 4 - i = (4 - i - 1) + 1 by omega, cont, if_pos (by omega)]; rfl)) by3 ⟨V, V⟩
    refine Zt V (Zg (Zc (Za 4 V V V (Ze V V (Vs (Zb (Ya ?_)))))))
    exact Yh V V (Le.inteq (by rw [hno (by omega)]; rfl)) by3 ⟨V, V⟩
   omega
  omega
 omega
theorem Utf_c (s : ByteArray) (hs : s.size ≤ 60000) (at_ : Nat) (ha : at_ < s.size) : PCall Tryz.prog 112 [.val (.string s), .val (.int .i64 at_)] (.val (.int .i64 (utfL (rst s at_) : Nat))) := by
 obtain ⟨b, hb, hr, hlt⟩ := Wx ha
 rw [hr]
 by_cases q0 : b.toNat < 192 ∨ 248 ≤ b.toNat
 ·exact Utf_no s hs at_ ha b hb hlt q0
 by_cases q2 : b.toNat < 224
 ·exact Utf_2 s hs at_ ha b hb (by omega) q2
 by_cases q3 : b.toNat < 240
 ·exact Utf_3 s hs at_ ha b hb (by omega) q3
 exact Utf_4 s hs at_ ha b hb (by omega) (by omega)
theorem bad_c (s : ByteArray) (hs : s.size ≤ 60000) : PCall Tryz.prog 101 [.val (.string s)] (.val (.int .i64 (badF (s.size + 1) 0 (rst s 0)))) := by
 refine Zw Tryz.func101 V (by kernel_rfl) V (Uf V) ?_
 refine Yf (Zg (Zc (Za 2 V V V (Ze V V (Vs (Zb (Zg (Zg (Zc (Za 3 V V V (Ze V V (Vs (Zb (Zz ?_))))))))))))))
 refine c_loop (σ := Nat × Nat) (fun zz => match zz with | (i, f) => [(0, .val (.string s)), (3, .val (.int .i64 i))]) (fun zz => match zz with | (i, f) => []) (fun zz => match zz with | (i, f) => i ≤ s.size ∧ s.size - i < f ∧ badF (s.size + 1) 0 (rst s 0) = badF f i (rst s i)) (fun zz => match zz with | (i, f) => s.size - i) ((0, s.size + 1)) ?_ ?_ ?_ ?_
 ·exact ⟨Nat.zero_le _, by omega, V⟩
 ·exact by4
 ·exact by3
 rintro ⟨i, f⟩ hI
 try dsimp only [List.cons_append, List.nil_append] at hI ⊢
 obtain ⟨hi, hf, hu⟩ := hI
 refine Zg (Zg (Zc (Za 5 V V V (Zd V V (Za 6 V V V (Zd V V (Za 7 V V V (Xs V Ws V (Za 8 V V V (Yu V V V ?_)))))))))); intro c8 h8
 refine Vs (Zb ?_)
 rcases Zi h8 with ⟨rfl, g8⟩ | ⟨rfl, g8⟩
 ·refine Zr V (Xc (Xe (Xv (Xd (Zb (Zg (Zc (Za 2 V V V (Ze V V (Vs (Zb (Ya (Yh V V (Le.inteq ?_) by3 ⟨V, V⟩)))))))))))))
  rw [hu, rst_nil (by omega)]
  cases f <;> rfl
 refine Zt V (Zv (Zb (Zz (Zg ?_))))
 obtain ⟨b, _, hr, _⟩ := Wx (s := s) (i := i) (by omega)
 have hle := utfL_le (rst s i)
 rw [rst_len] at hle
 obtain ⟨f, rfl⟩ : ∃ f', f = f' + 1 := ⟨f - 1, by omega⟩
 have hb : badF (f + 1) i (rst s i) = if utfL (rst s i) = 0 then (i : Int) else badF f (i + utfL (rst s i)) (rst s (i + utfL (rst s i))) := by
  rw [← rst_drop, hr]; rfl
 refine Zc (Za 9 V V V (Zd V V (Za 10 V V V (Zd V V (Za 11 V V V (Ym (xs := [.tmp 9, .tmp 10]) V V (Utf_c s hs i (by omega)) by1 ?_))))))
 refine Za 4 V V V (Ze V V (Vs (Zb (Zg (Zg (Zc (Za 12 V V V (Zd V V (Za 13 V V V (Yr V V V ?_)))))))))); intro c13 h13
 refine Vs (Zb ?_)
 rcases Zi h13 with ⟨rfl, g13⟩ | ⟨rfl, g13⟩
 ·refine Zr V (Zv (Zb (Zc (Za 15 V V V (Zd V V (Za 16 V V V (Zd V V (Za 17 V V V (Yx V V V (Uj _ (by omega)) ?_)))))))))
  refine Za 3 V V V (Ze V V (Vs (Yt (Yz ?_))))
  refine ⟨(i + utfL (rst s i), f), ⟨by omega, by omega, ?_⟩, by simp; omega, by4, by3⟩
  rw [hu, hb, if_neg (by omega)]
 refine Zt V (Zg (Zc (Za 14 V V V (Zd V V (Za 2 V V V (Ze V V (Vs (Zb (Ya (Yh V V (Le.inteq ?_) by3 ⟨V, V⟩))))))))))
 rw [hu, hb, if_pos (by omega)]
def zi (l : List Nat) : List Int := l.map fun k : Nat => (k : Int)
theorem zi_len (l : List Nat) : (bts (zi l)).length = l.length := by simp [bts, zi]
def txR (at_ : Nat) : Option (List Nat × Nat) → AV
 | none => .tup [.val (.string ⟨#[]⟩), .val (.int .i64 0), .val (.bool false)]
 | some r => .tup [.val (.string (strN r.1)), .val (.int .i64 ((at_ + 1 + r.2 : Nat) : Int)), .val (.bool true)]
theorem tx_end (l : List Nat) : txL (34 :: l) = some ([], 1) := by rw [txL.eq_def]; rfl
theorem tx_10 (l : List Nat) : txL (10 :: l) = none := by rw [txL.eq_def]; rfl
theorem tx_more {c : Nat} (l : List Nat) (h1 : c ≠ 34) (h2 : c ≠ 10) (h3 : c ≠ 92) : txL (c :: l) = (txL l).map fun r => (c :: r.1, r.2 + 1) := by
 rw [txL.eq_def]; simp only [if_neg h1, if_neg h2, if_neg h3]
theorem tx_esc0 : txL [92] = none := by rfl
theorem tx_esc (d : Nat) (l : List Nat) : txL (92 :: d :: l) = match unesc d with
    | none => none
    | some x => (txL l).map fun r => (x :: r.1, r.2 + 2) := by rw [txL.eq_def]; rfl
theorem Vp {A : Option (List Nat × Nat)} {acc : List Nat} {k k' x m : Nat} (h : k' = k + m) : (A.map fun r : List Nat × Nat => (x :: r.1, r.2 + m)).map (fun r : List Nat × Nat => (acc ++ r.1, r.2 + k)) = A.map fun r : List Nat × Nat => ((acc ++ [x]) ++ r.1, r.2 + k') := by
 cases A with
 | none => rfl
 | some r => simp; omega
theorem escBytes : bytesN ⟨#[110, 116, 34, 92]⟩ = [110, 116, 34, 92] := by decide
theorem text_c (s : ByteArray) (hs : s.size ≤ 60000) (at_ : Nat) (ha : at_ < s.size) : PCall Tryz.prog 114 [.val (.string s), .val (.int .i64 at_)] (txR at_ (txL (rst s (at_ + 1)))) := by
 have HI := fun c => in_c ⟨#[110, 116, 34, 92]⟩ (by decide) c
 rw [escBytes] at HI
 refine Zw Tryz.func114 V (by kernel_rfl) V (Uf V) ?_
 refine Yf (Zg (Zc (Za 4 V V V (Ze V V (Za 5 V V V (Ze V V (Za 6 V V V (Ze V V (Vs (Zb (Zg (Zc (Za 7 V V V (Ze V V (Vs (Zb (Zg (Zg (ACode.ownNil (t := 7) 5 1 V (Zc (Za 10 V V V (Zd V V (Za 11 V V V (Yx V V V (Uj _ (by omega)) ?_))))))))))))))))))))))))
 refine Za 8 V V V (Ze V V (Vs (Zb (Zz ?_))))
 apply Wg [1, 2, 3, 4, 5, 6, 7, 8, 9, 10, 11, 12, 13, 14, 15, 16, 17, 18, 19, 20, 21, 22, 23, 24, 25, 26, 27, 28, 29, 30, 31, 32, 33, 34, 35, 36, 37, 38, 39, 40, 41, 42, 43, 44, 45, 46, 47, 48, 49, 50] (σ := Nat × List Nat × Value) (fun zz => match zz with | (i, acc, u) => [(7, .own u 1 (bts (zi acc))), (8, .val (.int .i64 i))]) (fun zz => match zz with | (i, acc, u) => [.own 5 1 u]) (fun zz => match zz with | (i, acc, u) => at_ + 1 ≤ i ∧ i ≤ s.size ∧ acc.length ≤ i ∧ txL (rst s (at_ + 1)) = (txL (rst s i)).map fun r => (acc ++ r.1, r.2 + (i - (at_ + 1)))) (fun zz => match zz with | (i, acc, u) => s.size - i) ((at_ + 1, [], .slice none 0 0))
 ·repeat' (first | exact Ui | apply Ug rfl | apply Uh rfl)
 ·refine ⟨Nat.le_refl _, ha, Nat.zero_le _, ?_⟩
  cases txL (rst s (at_ + 1)) <;> simp
 ·exact (by repeat' (first | exact SLe.nil _ | refine Uc V ?_ ?_ | exact Vz _ | exact Le.own _ _ _ | exact Le.nil _ | (refine Ue ?_; rfl) | (refine Le.own_seq ?_; rfl) | (refine Le.seq_eq ?_; rfl)))
 ·exact by3
 rintro ⟨i, acc, u⟩ hI
 try dsimp only [List.cons_append, List.nil_append] at hI ⊢
 obtain ⟨h1, h2, h3, hu⟩ := hI
 have hle : (bts (zi acc)).length ≤ 100000000 := by rw [zi_len]; omega
 refine Zg (Zg (Zc (Za 12 V V V (Zd V V (Za 13 V V V (Zd V V (Za 14 V V V (Xs V Ws V (Za 15 V V V (Yu V V V ?_)))))))))); intro c15 h15
 refine Vs (Zb ?_)
 rcases Zi h15 with ⟨rfl, g15⟩ | ⟨rfl, g15⟩
 ·refine Zr V (Xc (Xe (Xv (Xd (Zb (Zg (Zc (Za 4 V V V (Ze V V (Za 5 V V V (Ze V V (Za 6 V V V (Ze V V (Vs (Zb (Ya (out_ttt V V V V (Vz _) by3 ⟨?_, V⟩)))))))))))))))))
  rw [hu, rst_nil (by omega)]; rfl
 refine Zt V (Zv (Zb (Zg (Zz (Zg ?_)))))
 obtain ⟨b, hb, hr, hlt⟩ := Wx (s := s) (i := i) (by omega)
 refine Zc (Za 18 V V V (Zd V V (Za 19 V V V (Zd V V (Za 20 V V V (Xg V Ws V V V (hb) (Za 9 V V V (Ze V V (Vs (Zb (Zg (Zg (Zc (Za 21 V V V (Zd V V (Za 22 V V V (Yr V V V ?_))))))))))))))))); intro c22 h22
 refine Vs (Zb ?_)
 rcases Zi h22 with ⟨rfl, g22⟩ | ⟨rfl, g22⟩
 ·refine Zr V (Zv (Zb (Zg (Zg (Zc (Za 27 V V V (Zd V V (Za 28 V V V (Yr V V V ?_))))))))); intro c28 h28
  refine Vs (Zb ?_)
  rcases Zi h28 with ⟨rfl, g28⟩ | ⟨rfl, g28⟩
  ·refine Zr V (Zv (Zb (Zg (Zg (Zc (Za 29 V V V (Zd V V (Za 30 V V V (Yr V V V ?_))))))))); intro c30 h30
   refine Vs (Zb ?_)
   rcases Zi h30 with ⟨rfl, g30⟩ | ⟨rfl, g30⟩
   ·refine Zr V (Zv (Zb (Zc (Za 47 V V V (Zd V V (Za 48 V V V (Zd V V (Za 49 V V V (Ye (xs := [.tmp 48]) el_177 V V V V V V (Uf V) (Za 50 V V V (Xj (i := 0) el_177 V V V V (.seq _ _) by6 ?_)))))))))))
    intro u50
    refine Za 7 V V V (Ze V V (Vs (Yt (Zb (Zc (Za 16 V V V (Zd V V (Za 17 V V V (Yx V V V (Uj _ (by omega)) ?_)))))))))
    refine Za 8 V V V (Ze V V (Vs (Yz ?_)))
    first
    | (exfalso; clear hu; omega)
    | (have hm := tx_more (rst s (i + 1)) (c := b.toNat) (by clear hu; omega) (by clear hu; omega) (by clear hu; omega)
       rw [hr, hm, Vp (k' := i + 1 - (at_ + 1)) (by omega)] at hu
       exact ⟨(i + 1, acc ++ [b.toNat], u50), ⟨by omega, by omega, by simp; omega, hu⟩, by simp; omega, Uc V (Ue by9) by4, by3⟩)
    | (have hx : unesc d.toNat = some 10 := by rw [show d.toNat = 110 by clear hu; omega]; rfl
       rw [hx] at hu
       simp only [] at hu
       rw [Vp (k' := i + 1 + 1 - (at_ + 1)) (by omega)] at hu
       exact ⟨(i + 1 + 1, acc ++ [10], u50), ⟨by omega, by omega, by simp; omega, hu⟩, by simp; omega, Uc V (Ue by9) by4, by3⟩)
    | (have hx : unesc d.toNat = some 9 := by rw [show d.toNat = 116 by clear hu; omega]; rfl
       rw [hx] at hu
       simp only [] at hu
       rw [Vp (k' := i + 1 + 1 - (at_ + 1)) (by omega)] at hu
       exact ⟨(i + 1 + 1, acc ++ [9], u50), ⟨by omega, by omega, by simp; omega, hu⟩, by simp; omega, Uc V (Ue by9) by4, by3⟩)
    | (have hx : unesc d.toNat = some d.toNat := by unfold unesc; rw [if_neg (by clear hu; omega), if_neg (by clear hu; omega), if_pos (by clear hu; omega)]
       rw [hx] at hu
       simp only [] at hu
       rw [Vp (k' := i + 1 + 1 - (at_ + 1)) (by omega)] at hu
       exact ⟨(i + 1 + 1, acc ++ [d.toNat], u50), ⟨by omega, by omega, by simp; omega, hu⟩, by simp; omega, Uc V (Ue by9) by4, by3⟩)
   refine Zt V (Zg (Zc (Za 31 V V V (Zd V V (Za 32 V V V (Yx V V V (Uj _ (by omega)) ?_))))))
   refine Za 8 V V V (Ze V V (Vs (Zb (Zg (Zg (Zc (Za 33 V V V (Zd V V (Za 34 V V V (Zd V V (Za 35 V V V (Xs V Ws V (Za 36 V V V (Yr V V V ?_)))))))))))))); intro c36 h36
   refine Vs (Zb ?_)
   rcases Zi h36 with ⟨rfl, g36⟩ | ⟨rfl, g36⟩
   ·refine Zr V (Zv (Zb (Zg ?_)))
    obtain ⟨d, hd, hrd, hdl⟩ := Wx (s := s) (i := i + 1) (by omega)
    have hE := tx_esc d.toNat (rst s (i + 1 + 1))
    have hr2 : rst s i = 92 :: d.toNat :: rst s (i + 1 + 1) := by rw [hr, hrd, show b.toNat = 92 by omega]
    rw [hr2, hE] at hu
    refine Zc (Za 37 V V V (Zd V V (Za 38 V V V (Zd V V ?_))))
    refine Za 39 V V V (Xg (i := i + 1) V Ws V V (by first | rfl | omega) (hd) ?_)
    refine Za 9 V V V (Ze V V (Vs (Zb (Zg (Zg (Zc (Za 40 V V V (Zd V V (Za 41 V V V (Yg (xs := [.const (.string ⟨#[110, 116, 34, 92]⟩), .tmp 40]) V V (HI _) by1 ?_)))))))))); intro c41 h41
    refine Za 42 V V V (Xr V V ?_); intro c42 h42
    try replace h42 := nott h42 h41
    refine Vs (Zb ?_)
    rcases Zi h42 with ⟨rfl, g42⟩ | ⟨rfl, g42⟩
    ·refine Zr V (Zv (Zb (Zg (Zg ?_))))
     have hmem : d.toNat = 110 ∨ d.toNat = 116 ∨ d.toNat = 34 ∨ d.toNat = 92 := by clear hu hE hr2 hrd hd hr hb HI; simp_all; clear h41; omega
     refine Zc (Za 43 V V V (Zd V V (Za 44 V V V (Yr V V V ?_)))); intro c44 h44
     refine Vs (Zb ?_)
     rcases Zi h44 with ⟨rfl, g44⟩ | ⟨rfl, g44⟩
     ·refine Zr V (Zv (Zb (Zg (Zc (Za 45 V V V (Zd V V (Za 46 V V V (Yr V V V ?_)))))))); intro c46 h46
      refine Vs (Zb ?_)
      rcases Zi h46 with ⟨rfl, g46⟩ | ⟨rfl, g46⟩
      ·refine Zr V (Zv (Zb (Zc (Za 47 V V V (Zd V V (Za 48 V V V (Zd V V (Za 49 V V V (Ye (xs := [.tmp 48]) el_177 V V V V V V (Uf V) (Za 50 V V V (Xj (i := 0) el_177 V V V V (.seq _ _) by6 ?_)))))))))))
       intro u50
       refine Za 7 V V V (Ze V V (Vs (Yt (Zb (Zc (Za 16 V V V (Zd V V (Za 17 V V V (Yx V V V (Uj _ (by omega)) ?_)))))))))
       refine Za 8 V V V (Ze V V (Vs (Yz ?_)))
       first
       | (exfalso; clear hu; omega)
       | (have hm := tx_more (rst s (i + 1)) (c := b.toNat) (by clear hu; omega) (by clear hu; omega) (by clear hu; omega)
          rw [hr, hm, Vp (k' := i + 1 - (at_ + 1)) (by omega)] at hu
          exact ⟨(i + 1, acc ++ [b.toNat], u50), ⟨by omega, by omega, by simp; omega, hu⟩, by simp; omega, Uc V (Ue by9) by4, by3⟩)
       | (have hx : unesc d.toNat = some 10 := by rw [show d.toNat = 110 by clear hu; omega]; rfl
          rw [hx] at hu
          simp only [] at hu
          rw [Vp (k' := i + 1 + 1 - (at_ + 1)) (by omega)] at hu
          exact ⟨(i + 1 + 1, acc ++ [10], u50), ⟨by omega, by omega, by simp; omega, hu⟩, by simp; omega, Uc V (Ue by9) by4, by3⟩)
       | (have hx : unesc d.toNat = some 9 := by rw [show d.toNat = 116 by clear hu; omega]; rfl
          rw [hx] at hu
          simp only [] at hu
          rw [Vp (k' := i + 1 + 1 - (at_ + 1)) (by omega)] at hu
          exact ⟨(i + 1 + 1, acc ++ [9], u50), ⟨by omega, by omega, by simp; omega, hu⟩, by simp; omega, Uc V (Ue by9) by4, by3⟩)
       | (have hx : unesc d.toNat = some d.toNat := by unfold unesc; rw [if_neg (by clear hu; omega), if_neg (by clear hu; omega), if_pos (by clear hu; omega)]
          rw [hx] at hu
          simp only [] at hu
          rw [Vp (k' := i + 1 + 1 - (at_ + 1)) (by omega)] at hu
          exact ⟨(i + 1 + 1, acc ++ [d.toNat], u50), ⟨by omega, by omega, by simp; omega, hu⟩, by simp; omega, Uc V (Ue by9) by4, by3⟩)
      refine Zt V (Zc (Za 9 V V V (Ze V V (Vs (Zb (Zc (Za 47 V V V (Zd V V (Za 48 V V V (Zd V V (Za 49 V V V (Ye (xs := [.tmp 48]) el_177 V V V V V V (Uf V) (Za 50 V V V (Xj (i := 0) el_177 V V V V (.seq _ _) by6 ?_))))))))))))))
      intro u50
      refine Za 7 V V V (Ze V V (Vs (Yt (Zb (Zc (Za 16 V V V (Zd V V (Za 17 V V V (Yx V V V (Uj _ (by omega)) ?_)))))))))
      refine Za 8 V V V (Ze V V (Vs (Yz ?_)))
      first
      | (exfalso; clear hu; omega)
      | (have hm := tx_more (rst s (i + 1)) (c := b.toNat) (by clear hu; omega) (by clear hu; omega) (by clear hu; omega)
         rw [hr, hm, Vp (k' := i + 1 - (at_ + 1)) (by omega)] at hu
         exact ⟨(i + 1, acc ++ [b.toNat], u50), ⟨by omega, by omega, by simp; omega, hu⟩, by simp; omega, Uc V (Ue by9) by4, by3⟩)
      | (have hx : unesc d.toNat = some 10 := by rw [show d.toNat = 110 by clear hu; omega]; rfl
         rw [hx] at hu
         simp only [] at hu
         rw [Vp (k' := i + 1 + 1 - (at_ + 1)) (by omega)] at hu
         exact ⟨(i + 1 + 1, acc ++ [10], u50), ⟨by omega, by omega, by simp; omega, hu⟩, by simp; omega, Uc V (Ue by9) by4, by3⟩)
      | (have hx : unesc d.toNat = some 9 := by rw [show d.toNat = 116 by clear hu; omega]; rfl
         rw [hx] at hu
         simp only [] at hu
         rw [Vp (k' := i + 1 + 1 - (at_ + 1)) (by omega)] at hu
         exact ⟨(i + 1 + 1, acc ++ [9], u50), ⟨by omega, by omega, by simp; omega, hu⟩, by simp; omega, Uc V (Ue by9) by4, by3⟩)
      | (have hx : unesc d.toNat = some d.toNat := by unfold unesc; rw [if_neg (by clear hu; omega), if_neg (by clear hu; omega), if_pos (by clear hu; omega)]
         rw [hx] at hu
         simp only [] at hu
         rw [Vp (k' := i + 1 + 1 - (at_ + 1)) (by omega)] at hu
         exact ⟨(i + 1 + 1, acc ++ [d.toNat], u50), ⟨by omega, by omega, by simp; omega, hu⟩, by simp; omega, Uc V (Ue by9) by4, by3⟩)
     refine Zt V (Zc (Za 9 V V V (Ze V V (Vs (Zb (Zg (Zc (Za 45 V V V (Zd V V (Za 46 V V V (Yr V V V ?_))))))))))); intro c46 h46
     refine Vs (Zb ?_)
     rcases Zi h46 with ⟨rfl, g46⟩ | ⟨rfl, g46⟩
     ·refine Zr V (Zv (Zb (Zc (Za 47 V V V (Zd V V (Za 48 V V V (Zd V V (Za 49 V V V (Ye (xs := [.tmp 48]) el_177 V V V V V V (Uf V) (Za 50 V V V (Xj (i := 0) el_177 V V V V (.seq _ _) by6 ?_)))))))))))
      intro u50
      refine Za 7 V V V (Ze V V (Vs (Yt (Zb (Zc (Za 16 V V V (Zd V V (Za 17 V V V (Yx V V V (Uj _ (by omega)) ?_)))))))))
      refine Za 8 V V V (Ze V V (Vs (Yz ?_)))
      first
      | (exfalso; clear hu; omega)
      | (have hm := tx_more (rst s (i + 1)) (c := b.toNat) (by clear hu; omega) (by clear hu; omega) (by clear hu; omega)
         rw [hr, hm, Vp (k' := i + 1 - (at_ + 1)) (by omega)] at hu
         exact ⟨(i + 1, acc ++ [b.toNat], u50), ⟨by omega, by omega, by simp; omega, hu⟩, by simp; omega, Uc V (Ue by9) by4, by3⟩)
      | (have hx : unesc d.toNat = some 10 := by rw [show d.toNat = 110 by clear hu; omega]; rfl
         rw [hx] at hu
         simp only [] at hu
         rw [Vp (k' := i + 1 + 1 - (at_ + 1)) (by omega)] at hu
         exact ⟨(i + 1 + 1, acc ++ [10], u50), ⟨by omega, by omega, by simp; omega, hu⟩, by simp; omega, Uc V (Ue by9) by4, by3⟩)
      | (have hx : unesc d.toNat = some 9 := by rw [show d.toNat = 116 by clear hu; omega]; rfl
         rw [hx] at hu
         simp only [] at hu
         rw [Vp (k' := i + 1 + 1 - (at_ + 1)) (by omega)] at hu
         exact ⟨(i + 1 + 1, acc ++ [9], u50), ⟨by omega, by omega, by simp; omega, hu⟩, by simp; omega, Uc V (Ue by9) by4, by3⟩)
      | (have hx : unesc d.toNat = some d.toNat := by unfold unesc; rw [if_neg (by clear hu; omega), if_neg (by clear hu; omega), if_pos (by clear hu; omega)]
         rw [hx] at hu
         simp only [] at hu
         rw [Vp (k' := i + 1 + 1 - (at_ + 1)) (by omega)] at hu
         exact ⟨(i + 1 + 1, acc ++ [d.toNat], u50), ⟨by omega, by omega, by simp; omega, hu⟩, by simp; omega, Uc V (Ue by9) by4, by3⟩)
     refine Zt V (Zc (Za 9 V V V (Ze V V (Vs (Zb (Zc (Za 47 V V V (Zd V V (Za 48 V V V (Zd V V (Za 49 V V V (Ye (xs := [.tmp 48]) el_177 V V V V V V (Uf V) (Za 50 V V V (Xj (i := 0) el_177 V V V V (.seq _ _) by6 ?_))))))))))))))
     intro u50
     refine Za 7 V V V (Ze V V (Vs (Yt (Zb (Zc (Za 16 V V V (Zd V V (Za 17 V V V (Yx V V V (Uj _ (by omega)) ?_)))))))))
     refine Za 8 V V V (Ze V V (Vs (Yz ?_)))
     first
     | (exfalso; clear hu; omega)
     | (have hm := tx_more (rst s (i + 1)) (c := b.toNat) (by clear hu; omega) (by clear hu; omega) (by clear hu; omega)
        rw [hr, hm, Vp (k' := i + 1 - (at_ + 1)) (by omega)] at hu
        exact ⟨(i + 1, acc ++ [b.toNat], u50), ⟨by omega, by omega, by simp; omega, hu⟩, by simp; omega, Uc V (Ue by9) by4, by3⟩)
     | (have hx : unesc d.toNat = some 10 := by rw [show d.toNat = 110 by clear hu; omega]; rfl
        rw [hx] at hu
        simp only [] at hu
        rw [Vp (k' := i + 1 + 1 - (at_ + 1)) (by omega)] at hu
        exact ⟨(i + 1 + 1, acc ++ [10], u50), ⟨by omega, by omega, by simp; omega, hu⟩, by simp; omega, Uc V (Ue by9) by4, by3⟩)
     | (have hx : unesc d.toNat = some 9 := by rw [show d.toNat = 116 by clear hu; omega]; rfl
        rw [hx] at hu
        simp only [] at hu
        rw [Vp (k' := i + 1 + 1 - (at_ + 1)) (by omega)] at hu
        exact ⟨(i + 1 + 1, acc ++ [9], u50), ⟨by omega, by omega, by simp; omega, hu⟩, by simp; omega, Uc V (Ue by9) by4, by3⟩)
     | (have hx : unesc d.toNat = some d.toNat := by unfold unesc; rw [if_neg (by clear hu; omega), if_neg (by clear hu; omega), if_pos (by clear hu; omega)]
        rw [hx] at hu
        simp only [] at hu
        rw [Vp (k' := i + 1 + 1 - (at_ + 1)) (by omega)] at hu
        exact ⟨(i + 1 + 1, acc ++ [d.toNat], u50), ⟨by omega, by omega, by simp; omega, hu⟩, by simp; omega, Uc V (Ue by9) by4, by3⟩)
    refine Zt V (Zg (Zc (Za 4 V V V (Ze V V (Za 5 V V V (Ze V V (Za 6 V V V (Ze V V (Vs (Zb (Ya (out_ttt V V V V (Vz _) by3 ⟨?_, V⟩))))))))))))
    have hn : unesc d.toNat = none := by unfold unesc; simp_all
    rw [hu, hn]; rfl
   refine Zt V (Zg (Zc (Za 4 V V V (Ze V V (Za 5 V V V (Ze V V (Za 6 V V V (Ze V V (Vs (Zb (Ya (out_ttt V V V V (Vz _) by3 ⟨?_, V⟩))))))))))))
   rw [hu, hr, show b.toNat = 92 by omega, rst_nil (by omega), tx_esc0]; rfl
  refine Zt V (Zg (Zc (Za 4 V V V (Ze V V (Za 5 V V V (Ze V V (Za 6 V V V (Ze V V (Vs (Zb (Ya (out_ttt V V V V (Vz _) by3 ⟨?_, V⟩))))))))))))
  rw [hu, hr, show b.toNat = 10 by omega, tx_10]; rfl
 refine Zt V (Zg (Zc (Za 23 V V V (Zd V V (Za 24 V V V (op_bytestra (xs := zi acc) V tu_177 tu_5 Ws V (.own _ 1 _) (Za 25 V V V (Zd V V (Za 26 V V V (Yx V V V (Uj _ (by omega)) ?_))))))))))
 refine Za 4 V V V (Ze V V (Za 5 V V V (Ze V V (Za 6 V V V (Ze V V (Vs (Zb (Ya (out_ttt V V V V (Vz _) by3 ⟨?_, V⟩)))))))))
 rw [hu, hr, show b.toNat = 34 by omega, tx_end]
 simp [txR, strN, zi]; omega
theorem ret_int {k : IntKind} {a b : Int} (h : a = b) : Ending.returned (.int k a) = .returned (.int k b) := by rw [h]
set_option maxHeartbeats 400000 in
theorem Mod_c (n : Int) (w : World) : Calls Tryz.prog 136 #[.int .i64 n] w fun e w' => e = .returned (.int .u64 (R63 n)) ∧ w = w' := by
 go_enter Tryz.func136, Tryz.ntmps136
 go_wp2
 go_ret
 exact ⟨ret_int (R63_u64 n), V⟩
set_option maxHeartbeats 400000 in
theorem Mean_c (n : Int) (w : World) (h1 : 0 ≤ n) (h2 : n ≤ 9223372036854775807) : Calls Tryz.prog 135 #[.int .u64 n] w fun e w' => e = .returned (.int .i64 (W63 n)) ∧ w = w' := by
 go_enter Tryz.func135, Tryz.ntmps135
 go_wp2
 all_goals go_ret
 all_goals exact ⟨ret_int (by unfold W63; omega), rfl⟩
set_option maxHeartbeats 400000 in
theorem RWrap_c (n : Int) (w : World) : Calls Tryz.prog 133 #[.int .i64 n] w fun e w' => e = .returned (.int .i64 (W63 n)) ∧ w = w' := by
 go_enter Tryz.func133, Tryz.ntmps133
 go_wp2_with (first | (go_at_call 136; refine (Mod_c _ _).mono ?_; rintro e w' ⟨rfl, rfl⟩) | (go_at_call 135; refine (Mean_c _ _ (R63_lo _) (R63_hi _)).mono ?_; rintro e w' ⟨rfl, rfl⟩))
 go_ret
 exact ⟨ret_int (W63_R63 n), V⟩
set_option maxHeartbeats 400000 in
theorem RSub_c (a b : Int) (w : World) : Calls Tryz.prog 132 #[.int .i64 a, .int .i64 b] w fun e w' => e = .returned (.int .i64 (W63 (a - b))) ∧ w = w' := by
 have a1 := R63_lo a
 have a2 := R63_hi a
 have b1 := R63_lo b
 have b2 := R63_hi b
 go_enter Tryz.func132, Tryz.ntmps132
 go_wp2_with (first | (go_at_call 136; refine (Mod_c _ _).mono ?_; rintro e w' ⟨rfl, rfl⟩) | (go_at_call 135; refine (Mean_c _ _ (by omega) (by omega)).mono ?_; rintro e w' ⟨rfl, rfl⟩))
 go_ret
 exact ⟨ret_int (W63_congr (by unfold R63; omega)), V⟩
set_option maxHeartbeats 400000 in
theorem Signed_c (u : Int) (neg : Bool) (w : World) (h1 : 0 ≤ u) (h2 : u ≤ 9223372036854775807) : Calls Tryz.prog 129 #[.int .u64 u, .bool neg] w fun e w' => e = .returned (.int .i64 (W63 (sgn u neg))) ∧ w = w' := by
 cases neg with
 | true =>
  go_enter Tryz.func129, Tryz.ntmps129
  go_wp2_with (go_at_call 132; refine (RSub_c _ _ _).mono ?_; rintro e w' ⟨rfl, rfl⟩)
  go_ret
  exact ⟨ret_int (W63_congr (by simp [sgn]; try omega)), V⟩
 | false =>
  go_enter Tryz.func129, Tryz.ntmps129
  go_wp2_with (go_at_call 133; refine (RWrap_c _ _).mono ?_; rintro e w' ⟨rfl, rfl⟩)
  go_ret
  exact ⟨ret_int (W63_congr (by simp [sgn]; try omega)), V⟩
theorem u64w (x : Int) : IntKind.u64.wrap x = x % 18446744073709551616 := by
 unfold IntKind.wrap
 simp [IntKind.bits, IntKind.signed]
theorem u8w (x : Int) : IntKind.u8.wrap x = x % 256 := by
 unfold IntKind.wrap
 simp [IntKind.bits, IntKind.signed]
theorem SignedA_c (u : Int) (neg : Bool) (h1 : 0 ≤ u) (h2 : u ≤ 9223372036854775807) : PCall Tryz.prog 129 [.val (.int .u64 u), .val (.bool neg)] (.val (.int .i64 (W63 (sgn u neg)))) :=
 PCall.of_calls (vs := [.int .u64 u, .bool neg]) (enters_of Tryz.func129 (by kernel_rfl) rfl) (fun w => (Signed_c u neg w h1 h2).mono (by rintro e w' ⟨rfl, rfl⟩; exact ⟨rfl, Below.refl _ _⟩))
def parR : Option Nat → AV
 | none => .tup [.val (.int .i64 0), .val (.int .i64 3)]
 | some n => .tup [.val (.int .i64 n), .val (.int .i64 0)]
theorem parL_none {l : List Nat} (h : valO 0 l = none) : parL l = none := by unfold parL; rw [h]
theorem parL_half {l : List Nat} (h : valO 0 l = some 4611686018427387904) : parL l = none := by unfold parL; rw [h]; rfl
theorem parL_some {l : List Nat} {n : Nat} (h : valO 0 l = some n) (hn : n ≠ 4611686018427387904) : parL l = some n := by unfold parL; rw [h]; simp only [if_neg hn]
theorem rParse_c (s : ByteArray) (hs : s.size ≤ 60000) (h0 : 0 < s.size) (hd : ∀ (i : Nat) (b : UInt8), s[i]? = some b → 48 ≤ b.toNat ∧ b.toNat ≤ 57) (hz : ∀ b : UInt8, s[0]? = some b → b.toNat = 48 → s.size = 1) : PCall Tryz.prog 117 [.val (.string s)] (parR (parL (rst s 0))) := by
 obtain ⟨z, hz0, _, _⟩ := Wx h0
 have hz1 := hz z hz0
 have hz2 := hd 0 z hz0
 have HS := SignedA_c
 refine Zw Tryz.func117 V (by kernel_rfl) V (Uf V) ?_
 refine Yf (Zg (Zc (Za 2 V V V (Ze V V (Za 3 V V V (Ze V V (Vs (Zb (Zg (Xl 4 (False) ?_ _ _ V ?_))))))))))
 ·skip
  refine Za 9 V V V (Zd V V (Za 10 V V V (Xs V Ws V (Za 11 V V V (Ww V V V ?_))))); intro c11 h11
  refine Za 12 V V V (Zd V V ?_)
  rcases Zi h11 with ⟨rfl, g11⟩ | ⟨rfl, g11⟩
  ·skip
   refine Zk 13 V V V V V (Zk 14 V V V V V (Zk 15 V V V V V (Za 16 V V V (Zn V V V (Za 4 V V V (Ze V V (Vs (Ud V ?_ by5 by3))))))))
   simp_all; done
  skip
  refine Zl 13 V V V V V (Zd V V ?_)
  refine Zl 14 V V V V V (Xg (i := 0) V Ws V V (by first | rfl | omega) (hz0) ?_)
  refine Zl 15 V V V V V (Yr V V V ?_); intro c15 h15
  refine Za 16 V V V (Zn V V V (Za 4 V V V (Ze V V (Vs (Ud V ?_ by5 by3)))))
  simp_all; omega
 intro c4 h4
 refine Zb (Zg (Zc (Za 5 V V V (Ze V V (Vs (Zb (Zg (Zg (Zc (Za 17 V V V (Zd V V (Vs (Zb ?_)))))))))))))
 rcases Zi h4 with ⟨rfl, g4⟩ | ⟨rfl, g4⟩
 ·refine Zr V (Zv (Zb (Zg (Zg (Xl 37 (False) ?_ _ _ V ?_)))))
  ·skip
   refine Za 18 V V V (Zd V V (Za 19 V V V (Zd V V (Za 20 V V V (Xs V Ws V (Za 21 V V V (Yr V V V ?_))))))); intro c21 h21
   refine Za 22 V V V (Zd V V ?_)
   rcases Zi h21 with ⟨rfl, g21⟩ | ⟨rfl, g21⟩
   ·skip
    refine Zl 23 V V V V V (Zd V V (Zl 24 V V V V V (Zd V V ?_)))
    refine Zl 25 V V V V V (Xg (i := 0) V Ws V V (by first | rfl | omega) (hz0) ?_)
    refine Zl 26 V V V V V (Yr V V V ?_); intro c26 h26
    refine Zl 27 V V V V V (Zd V V ?_)
    rcases Zi h26 with ⟨rfl, g26⟩ | ⟨rfl, g26⟩
    ·skip
     refine Zk 28 V V V V V (Zk 29 V V V V V (Zk 30 V V V V V (Zk 31 V V V V V (Zk 32 V V V V V (Zk 33 V V V V V (Yj 34 V V V V V (Zk 35 V V V V V (Zl 36 V V V V V (Zn V V V (Za 37 V V V (Zn V V V (Vs (Ud V ?_ by5 by3)))))))))))))
     clear HS; first | (simp_all; done) | (simp_all; omega) | grind
    skip
    refine Zl 28 V V V V V (Zd V V (Zl 29 V V V V V (Xs V Ws V (Zl 30 V V V V V (Zd V V (Zl 31 V V V V V (Yx V V V (Uj _ (by omega)) ?_)))))))
    refine Zl 32 V V V V V (Ww V V V ?_); intro c32 h32
    refine Zl 33 V V V V V (Zd V V ?_)
    rcases Zi h32 with ⟨rfl, g32⟩ | ⟨rfl, g32⟩
    ·skip
     refine Zl 34 V V V V V (Zd V V (Zl 35 V V V V V (Zn V V V (Zl 36 V V V V V (Zn V V V (Za 37 V V V (Zn V V V (Vs (Ud V ?_ by5 by3)))))))))
     clear HS; first | (simp_all; done) | (simp_all; omega) | grind
    skip
    refine Zk 34 V V V V V (Zl 35 V V V V V (Zn V V V (Zl 36 V V V V V (Zn V V V (Za 37 V V V (Zn V V V (Vs (Ud V ?_ by5 by3))))))))
    clear HS; first | (simp_all; done) | (simp_all; omega) | grind
   skip
   refine Zk 23 V V V V V (Zk 24 V V V V V (Zk 25 V V V V V (Zk 26 V V V V V (Zk 27 V V V V V (Yj 28 V V V V V (Yj 29 V V V V V (Yj 30 V V V V V (Yj 31 V V V V V (Yj 32 V V V V V (Yj 33 V V V V V (Yj 34 V V V V V ?_)))))))))))
   refine Yj 35 V V V V V (Zk 36 V V V V V (Za 37 V V V (Zn V V V (Vs (Ud V ?_ by5 by3)))))
   clear HS; first | (simp_all; done) | (simp_all; omega) | grind
  intro c37 h37
  refine Zb ?_
  rcases Zi h37 with ⟨rfl, g37⟩ | ⟨rfl, g37⟩
  ·refine Zr V (Zv (Zb (Zg (Zg (Zc (Za 38 V V V (Zd V V (Za 6 V V V (Ze V V (Vs (Zb (Zz ?_))))))))))))
   apply Xm [1, 2, 3, 6, 9, 10, 11, 12, 13, 14, 15, 16, 17, 18, 19, 20, 21, 22, 23, 24, 25, 26, 27, 28, 29, 30, 31, 32, 33, 34, 35, 36, 37, 38, 39, 40, 41, 42, 43, 44, 45, 46, 47, 48, 49, 50, 51, 52, 53, 54] (σ := Nat) (fun zz => match zz with | i => [(6, .val (.int .i64 i))]) (fun zz => match zz with | i => i ≤ s.size) (fun zz => match zz with | i => s.size - i) (0)
   ·repeat' (first | exact Ui | apply Ug rfl | apply Uh rfl)
   ·exact Nat.zero_le _
   ·exact by4
   rintro i hI
   try dsimp only [List.cons_append, List.nil_append] at hI ⊢
   refine Zg (Zg (Zc (Za 39 V V V (Zd V V (Za 40 V V V (Zd V V (Za 41 V V V (Xs V Ws V (Za 42 V V V (Yu V V V ?_)))))))))); intro c42 h42
   refine Vs (Zb ?_)
   rcases Zi h42 with ⟨rfl, g42⟩ | ⟨rfl, g42⟩
   ·refine Zr V (Xc (Xe (Xv (Xd (Zb (Zg (Zc (Za 7 V V V (Ze V V (Vs (Zb (Zg (Zg (Zc (Za 55 V V V (Zd V V (Za 8 V V V (Ze V V (Vs (Zb (Zz ?_)))))))))))))))))))))
    apply Xm [1, 2, 3, 5, 6, 7, 8, 9, 10, 11, 12, 13, 14, 15, 16, 17, 18, 19, 20, 21, 22, 23, 24, 25, 26, 27, 28, 29, 30, 31, 32, 33, 34, 35, 36, 37, 38, 39, 40, 41, 42, 43, 44, 45, 46, 47, 48, 49, 50, 51, 52, 53, 54, 55, 56, 57, 58, 59, 60, 61, 62, 63, 64, 65, 66, 67, 68, 69, 70, 71] (σ := Nat × Nat) (fun zz => match zz with | (j, n) => [(7, .val (.int .u64 n)), (8, .val (.int .i64 j))]) (fun zz => match zz with | (j, n) => j ≤ s.size ∧ n ≤ 4611686018427387904 ∧ valO 0 (rst s 0) = valO n (rst s j)) (fun zz => match zz with | (j, n) => s.size - j) ((0, 0))
    ·repeat' (first | exact Ui | apply Ug rfl | apply Uh rfl)
    ·exact ⟨Nat.zero_le _, by omega, V⟩
    ·exact by4
    rintro ⟨j, n⟩ hI
    try dsimp only [List.cons_append, List.nil_append] at hI ⊢
    obtain ⟨hj, hn, hu⟩ := hI
    refine Zg (Zg (Zc (Za 56 V V V (Zd V V (Za 57 V V V (Zd V V (Za 58 V V V (Xs V Ws V (Za 59 V V V (Yu V V V ?_)))))))))); intro c59 h59
    refine Vs (Zb ?_)
    rcases Zi h59 with ⟨rfl, g59⟩ | ⟨rfl, g59⟩
    ·refine Zr V (Xc (Xe (Xv (Xd (Zb (Zg (Zg (Xl 77 (n = 4611686018427387904) ?_ _ _ V ?_))))))))
     ·skip
      refine Za 72 V V V (Zd V V (Za 73 V V V (Yr V V V ?_))); intro c73 h73
      refine Za 74 V V V (Zd V V ?_)
      rcases Zi h73 with ⟨rfl, g73⟩ | ⟨rfl, g73⟩
      ·skip
       refine Zk 75 V V V V V (Zk 76 V V V V V (Za 77 V V V (Zn V V V (Vs (Ud V ?_ by5 by3)))))
       simp_all; omega
      skip
      refine Zl 75 V V V V V (Zd V V (Zl 76 V V V V V (Xr V V ?_))); intro c76 h76
      try replace h76 := nott h76 h16
      refine Za 77 V V V (Zn V V V (Vs (Ud V ?_ by5 by3)))
      simp_all; omega
     intro c77 h77
     refine Zb ?_
     rcases Zi h77 with ⟨rfl, g77⟩ | ⟨rfl, g77⟩
     ·refine Zr V (Zv (Zb (Zg (Zc (Za 78 V V V (Zd V V (Za 79 V V V (Zd V V (Za 80 V V V (Ym (xs := [.tmp 78, .tmp 79]) V V (HS n false (by omega) (by omega)) by1 ?_))))))))))
      refine Za 2 V V V (Ze V V (Za 3 V V V (Ze V V (Vs (Zb (Ya (out_tt V V V (Vz _) by3 ⟨?_, V⟩)))))))
      rw [rst_nil (s := s) (i := j) (by omega), valO] at hu
      rw [parL_some hu g77, sgn, W63_id _ (by first | (simp; done) | (simp; omega)) (by first | (simp; done) | (simp; omega))]; rfl
     refine Zt V (Zg (Zc (Za 2 V V V (Ze V V (Za 3 V V V (Ze V V (Vs (Zb (Ya (out_tt V V V (Vz _) by3 ⟨?_, V⟩))))))))))
     rw [rst_nil (s := s) (i := j) (by omega), valO, g77] at hu
     rw [parL_half hu]; rfl
    refine Zt V (Zv (Zb (Zg (Zz (Zg ?_)))))
    obtain ⟨b, hb, hr, _⟩ := Wx (s := s) (i := j) (by omega)
    have hbd := hd j b hb
    rw [hr, valO] at hu
    have hw : IntKind.u64.wrap (IntKind.u64.wrap (10 * (n : Int)) + IntKind.u64.wrap (IntKind.u8.wrap ((b.toNat : Int) - 48))) = (((10 * n + (b.toNat - 48)) % 18446744073709551616 : Nat) : Int) := by
     rw [u64w, u64w, u64w, u8w]; omega
    refine Zc (Za 62 V V V (Zd V V (Za 63 V V V (op_mul V V V V (Za 64 V V V (Zd V V (Za 65 V V V (Zd V V (Za 66 V V V (Xg V Ws V V V (hb) (Za 67 V V V (op_sub V V V V (Za 68 V V V (op_convert V tu_5 tu_179 V V (Za 69 V V V (Yx V V V V (Za 7 V V V (Ze V V (Vs (Zb (Zg (Zc (Za 70 V V V (Zd V V ?_))))))))))))))))))))))))
    refine Za 71 V V V (Ww V V V ?_); intro c71 h71
    refine Vs (Zb ?_)
    rcases Zi h71 with ⟨rfl, g71⟩ | ⟨rfl, g71⟩
    ·refine Zr V (Zv (Yt (Zb (Zc (Za 60 V V V (Zd V V (Za 61 V V V (Yx V V V (Uj _ (by omega)) ?_))))))))
     refine Za 8 V V V (Ze V V (Vs (Yz ?_)))
     rw [hw] at g71
     rw [if_neg (by omega)] at hu
     exact ⟨(j + 1, (10 * n + (b.toNat - 48)) % 18446744073709551616), ⟨by omega, by omega, hu⟩, by simp; omega, Uc V (Le.inteq hw) by4, by3⟩
    refine Zt V (Zg (Zc (Za 2 V V V (Ze V V (Za 3 V V V (Ze V V (Vs (Zb (Ya (out_tt V V V (Vz _) by3 ⟨?_, V⟩))))))))))
    rw [hw] at g71
    rw [if_pos (by omega)] at hu
    rw [parL_none hu]; rfl
   refine Zt V (Zv (Zb (Zg (Zz (Zg ?_)))))
   obtain ⟨b, hb, _, _⟩ := Wx (s := s) (i := i) (by omega)
   have hbd := hd i b hb
   refine Xl 54 (False) ?_ _ _ V ?_
   ·skip
    refine Za 45 V V V (Zd V V (Za 46 V V V (Zd V V (Za 47 V V V (Xg V Ws V V V (hb) (Za 48 V V V (Yu V V V ?_))))))); intro c48 h48
    refine Za 49 V V V (Zd V V ?_)
    rcases Zi h48 with ⟨rfl, g48⟩ | ⟨rfl, g48⟩
    ·skip
     refine Zl 50 V V V V V (Zd V V (Zl 51 V V V V V (Zd V V (Zl 52 V V V V V (Xg V Ws V V V (hb) (Zl 53 V V V V V (Ww V V V ?_))))))); intro c53 h53
     refine Za 54 V V V (Zn V V V (Vs (Ud V ?_ by5 by3)))
     simp_all; omega
    skip
    refine Zk 50 V V V V V (Zk 51 V V V V V (Zk 52 V V V V V (Zk 53 V V V V V (Za 54 V V V (Zn V V V (Vs (Ud V ?_ by5 by3)))))))
    simp_all; omega
   intro c54 h54
   refine Zb ?_
   rcases Zi h54 with ⟨rfl, g54⟩ | ⟨rfl, g54⟩
   ·refine Zr V (Zv (Yt (Zb (Zc (Za 43 V V V (Zd V V (Za 44 V V V (Yx V V V (Uj _ (by omega)) ?_))))))))
    refine Za 6 V V V (Ze V V (Vs (Yz ?_)))
    exact ⟨i + 1, (by show i + 1 ≤ s.size; omega), by simp; omega, by4, by3⟩
   exact g54.elim
  exact g37.elim
 exact g4.elim
theorem Yp {P : Program} {fn : Func} {R : AV → Mem → Prop} {al : Sl} {M M' : Mem} {t1 t2 t T b s i : Nat} {cs : List AV} {v v2 v' : AV} (hr : fn.results = #[.cell t T, .tmp t1, .tmp t2]) (h1 : al.lookup t1 = some v) (h2 : al.lookup t2 = some v2) (hv : al.lookup t = some (.ptr b 0)) (hm0 : M[i]? = some (.loc b cs)) (ht : tyAgg P T = some (some s)) (hs : cs.length = s) (hl : Le (.tup [.agg cs, v, v2]) v') (hm : MLe M M') (h : R v' M') : Out P fn R .ret al M :=
 ⟨[.agg cs, v, v2], v', M', by rw [hr]; exact .cons ⟨b, 0, i, cs, hv, hm0, .inl ⟨s, ht, by rw [List.drop_zero, ← hs, List.take_length], by omega⟩⟩ (.cons h1 (.cons h2 .nil)), hl, hm, h⟩
def Tok.av (t : Tok) : List AV := [.val (.int .i64 t.k), .val (.string t.t), .val (.int .i64 t.n), .val (.int .i64 t.a)]
def oneR (o : Tok × Int × Int) : AV := .tup [.agg o.1.av, .val (.int .i64 o.2.1), .val (.int .i64 o.2.2)]
theorem one_text (s : ByteArray) (hs : s.size ≤ 60000) (at_ : Nat) (ha : at_ < s.size) (b : UInt8) (hb : s[at_]? = some b) (hq : b.toNat = 34) : PCall Tryz.prog 103 [.val (.string s), .val (.int .i64 at_)] (oneR (oneL at_ (b.toNat :: rst s (at_ + 1)))) := by
 have HT := text_c s hs at_ ha
 have hO : oneL at_ (b.toNat :: rst s (at_ + 1)) = match txL (rst s (at_ + 1)) with
     | none => (tok0 at_, 0, 103)
     | some x => (⟨4, strN x.1, 0, at_⟩, at_ + 1 + x.2, 0) := by (rw [oneL, if_pos hq]) <;> (cases txL (rst s (at_ + 1)) <;> rfl)
 rw [hO]
 cases hx : txL (rst s (at_ + 1)) with
 | none =>
  rw [hx] at HT
  simp only [txR] at HT
  refine Zw Tryz.func103 V (by kernel_rfl) V (Uf V) ?_
  refine Yf (Zg (Zc (Za 4 V V V (Zy (cs' := [_, _, _, _]) V Wj V V ?_)))); intro b4
  refine Za 5 V V V (Ze V V (Za 6 V V V (Ze V V (Vs (Zb (Zg (Zc (Za 17 V V V (Zd V V (Za 18 V V V (Zd V V (Za 19 V V V (Xg V Ws V V V (hb) (Za 7 V V V (Ze V V (Vs (Zb (Zg (Zc (Za 20 V V V (Zd V V (Za 21 V V V (Yl (ns := [3]) (xs := [.tmp 20]) V Wj V tfl_97 V V V V (Za 8 V V V (Zy (cs' := [_, _, _, _]) V Wj V V ?_))))))))))))))))))))))))); intro b8
  refine Zs V V (Zq (cs' := [_, _, _, _]) (i := 0) V Xk V V V V V (Uf V) V (Vs (Zb (Zg (Zg (Zc (Za 22 V V V (Zd V V (Za 23 V V V (Yr V V V ?_)))))))))); intro c23 h23
  refine Vs (Zb ?_)
  rcases Zi h23 with ⟨rfl, g23⟩ | ⟨rfl, g23⟩
  ·omega
  refine Zt V (Zg (Zc (Za 25 V V V (Zd V V (Za 26 V V V (Zd V V (Za 27 V V V (Ym (xs := [.tmp 25, .tmp 26]) V V (HT) by1 ?_))))))))
  refine Za 24 V V V (Zd V V (Za 28 V V V (Yv V V V (Za 29 V V V (Yv V V V (Za 30 V V V (Yv V V V (Za 9 V V V (Ze V V (Za 10 V V V (Ze V V (Za 11 V V V (Ze V V (Vs (Zb (Zg (Zg (Zc (Za 31 V V V (Zd V V (Za 32 V V V (Xr V V ?_)))))))))))))))))))))); intro c32 h32
  try replace h32 := nott h32 h30
  refine Vs (Zb ?_)
  rcases Zi h32 with ⟨rfl, g32⟩ | ⟨rfl, g32⟩
  ·simp_all
  refine Zt V (Zg (Zc (Za 33 V V V (Zx (cs' := [_, _, _, _]) (i := 0) V Yq V V V V (Zs V V (Zq (cs' := [_, _, _, _]) (i := 1) V Xk V V V V V (Uf V) V (Za 5 V V V (Ze V V (Za 6 V V V (Ze V V (Vs (Zb (Ya ?_)))))))))))))
  first | exact Yp (i := 1) rfl rfl rfl rfl rfl Yq rfl (Vz _) by3 ⟨rfl, rfl⟩ | exact Yp (i := 0) rfl rfl rfl rfl rfl Yq rfl (Vz _) by3 ⟨rfl, rfl⟩
 | some r =>
  rw [hx] at HT
  simp only [txR] at HT
  refine Zw Tryz.func103 V (by kernel_rfl) V (Uf V) ?_
  refine Yf (Zg (Zc (Za 4 V V V (Zy (cs' := [_, _, _, _]) V Wj V V ?_)))); intro b4
  refine Za 5 V V V (Ze V V (Za 6 V V V (Ze V V (Vs (Zb (Zg (Zc (Za 17 V V V (Zd V V (Za 18 V V V (Zd V V (Za 19 V V V (Xg V Ws V V V (hb) (Za 7 V V V (Ze V V (Vs (Zb (Zg (Zc (Za 20 V V V (Zd V V (Za 21 V V V (Yl (ns := [3]) (xs := [.tmp 20]) V Wj V tfl_97 V V V V (Za 8 V V V (Zy (cs' := [_, _, _, _]) V Wj V V ?_))))))))))))))))))))))))); intro b8
  refine Zs V V (Zq (cs' := [_, _, _, _]) (i := 0) V Xk V V V V V (Uf V) V (Vs (Zb (Zg (Zg (Zc (Za 22 V V V (Zd V V (Za 23 V V V (Yr V V V ?_)))))))))); intro c23 h23
  refine Vs (Zb ?_)
  rcases Zi h23 with ⟨rfl, g23⟩ | ⟨rfl, g23⟩
  ·omega
  refine Zt V (Zg (Zc (Za 25 V V V (Zd V V (Za 26 V V V (Zd V V (Za 27 V V V (Ym (xs := [.tmp 25, .tmp 26]) V V (HT) by1 ?_))))))))
  refine Za 24 V V V (Zd V V (Za 28 V V V (Yv V V V (Za 29 V V V (Yv V V V (Za 30 V V V (Yv V V V (Za 9 V V V (Ze V V (Za 10 V V V (Ze V V (Za 11 V V V (Ze V V (Vs (Zb (Zg (Zg (Zc (Za 31 V V V (Zd V V (Za 32 V V V (Xr V V ?_)))))))))))))))))))))); intro c32 h32
  try replace h32 := nott h32 h30
  refine Vs (Zb ?_)
  rcases Zi h32 with ⟨rfl, g32⟩ | ⟨rfl, g32⟩
  ·refine Zr V (Zv (Zb (Zg (Zc (Za 34 V V V (Zh V Xf V (Zs V V (Zq (cs' := [_, _, _, _]) (i := 0) V Wh V V V V V (Uf V) V (Vs (Zb (Zg (Zc (Za 35 V V V (Zd V V (Za 36 V V V (Zh V Xh V (Zs V V (Zq (cs' := [_, _, _, _]) (i := 0) V ts_9 V V V V V (Uf V) V (Vs (Zb (Zg (Zc (Za 37 V V V (Zx (cs' := [_, _, _, _]) (i := 0) V Yq V V V V (Za 38 V V V (Zd V V (Zs V V (Zq (cs' := [_, _, _, _]) (i := 1) V Xk V V V V V (Uf V) V (Za 5 V V V (Ze V V ?_))))))))))))))))))))))))))))))
   refine Za 6 V V V (Ze V V (Vs (Zb (Ya ?_))))
   first | exact Yp (i := 1) rfl rfl rfl rfl rfl Yq rfl (Vz _) by3 ⟨rfl, rfl⟩ | exact Yp (i := 0) rfl rfl rfl rfl rfl Yq rfl (Vz _) by3 ⟨rfl, rfl⟩
  simp_all
end Go.Proofs.YtknodnfbaofngaaGreat
