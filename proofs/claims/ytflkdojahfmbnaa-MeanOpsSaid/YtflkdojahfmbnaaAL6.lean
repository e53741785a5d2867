/- A logic of trees, part 6: regions whose order is drawn, where nothing is written: the text's order stands for all of them. -/
import Derived.Test.YtflkdojahfmbnaaAL5
import Derived.OrdersIn
namespace Go.Proofs.Ytflkdojahfmbnaa
open Go.RowKit
/-- the slots that an operation looks at -/
def Oper.tmps (o : Oper) : List Tmp := o.op.operands.toList.filterMap fun x => match x with | .tmp t => some t | _ => none
def Sl.only (al : Sl) (ts : List Tmp) : Sl := al.filter fun x => ts.contains x.1
theorem only_lookup (al : Sl) (ts : List Tmp) (t : Tmp) : (al.only ts).lookup t = if ts.contains t then al.lookup t else none := by
  unfold Sl.only
  induction al with
  | nil => simp
  | cons x al ih =>
    rw [List.filter_cons]
    by_cases e : t = x.1
    · subst e
      by_cases c : ts.contains x.1
      · rw [if_pos c, if_pos c, List.lookup, List.lookup]; simp
      · rw [if_neg c, ih, if_neg c, if_neg c]
    · have he : (t == x.1) = false := by simpa using e
      have hl : List.lookup t (x :: al) = List.lookup t al := by rw [List.lookup, he]
      by_cases c : ts.contains x.1
      · rw [if_pos c, hl, List.lookup, he]; exact ih
      · rw [if_neg c, hl]; exact ih
/-- one operation that writes nothing, in a region whose order is drawn -/
def DStep (P : Program) (ops : List Oper) (o : Oper) (al : Sl) (M : Mem) (v : AV) : Prop :=
  match o.guard with
  | none => OpT P o (al.only (Oper.tmps o)) M (fun v' M' => v' = v ∧ M' = M)
  | some (j, b) => ∃ t, (ops[j]?).bind (·.dst) = some t ∧
      ((al.lookup t = some (.val (.bool b)) ∧ OpT P { o with guard := none } (al.only (Oper.tmps o)) M (fun v' M' => v' = v ∧ M' = M)) ∨
       ((al.lookup t = some (.val (.bool !b)) ∨ al.lookup t = some (.val undef)) ∧ v = .val undef))
def DOps (P : Program) (ops : List Oper) (M : Mem) (Q : Sl → Prop) : List Oper → Sl → Prop
  | [], al => Q al
  | o :: rest, al => ∃ v, DStep P ops o al M v ∧ DOps P ops M Q rest (al.put o.dst v)
/-- the slots behind so many operations -/
def puts : List Oper → List AV → Sl → Sl
  | o :: os, v :: vs, al => puts os vs (al.put o.dst v)
  | _, _, al => al
theorem DOps.table {P : Program} {ops : List Oper} {M : Mem} {Q : Sl → Prop} : ∀ {l : List Oper} {al : Sl}, DOps P ops M Q l al → ∃ vs : List AV, vs.length = l.length ∧ Q (puts l vs al) ∧ ∀ (i : Nat) (o : Oper) (v : AV), l[i]? = some o → vs[i]? = some v → DStep P ops o (puts (l.take i) (vs.take i) al) M v
  | [], al, h => ⟨[], rfl, h, by simp⟩
  | o :: l, al, ⟨v, h1, h2⟩ => by
    obtain ⟨vs, k1, k2, k3⟩ := DOps.table h2
    refine ⟨v :: vs, by simp [k1], k2, fun i o' v' ho hv => ?_⟩
    cases i with
    | zero => simp at ho hv; subst ho hv; simpa [puts] using h1
    | succ i => simpa [puts] using k3 i o' v' (by simpa using ho) (by simpa using hv)
/-- what a look sees behind so many operations: the last that wrote, or what was there -/
theorem puts_lookup : ∀ (l : List Oper) (vs : List AV) (al : Sl) (t : Tmp), vs.length = l.length → (∃ (j : Nat) (o : Oper) (v : AV), l[j]? = some o ∧ vs[j]? = some v ∧ o.dst = some t ∧ (puts l vs al).lookup t = some v) ∨ ((∀ (j : Nat) (o : Oper), l[j]? = some o → o.dst ≠ some t) ∧ (puts l vs al).lookup t = al.lookup t)
  | [], [], al, t, _ => Or.inr ⟨by simp, rfl⟩
  | [], _ :: _, _, _, h => by simp at h
  | _ :: _, [], _, _, h => by simp at h
  | o :: l, v :: vs, al, t, h => by
    rw [puts]
    rcases puts_lookup l vs (al.put o.dst v) t (by simpa using h) with ⟨j, o', v', h1, h2, h3, h4⟩ | ⟨h1, h2⟩
    · exact Or.inl ⟨j + 1, o', v', by simpa using h1, by simpa using h2, h3, h4⟩
    · by_cases e : o.dst = some t
      · refine Or.inl ⟨0, o, v, by simp, by simp, e, ?_⟩
        rw [h2, e]; simp [Sl.put]
      · refine Or.inr ⟨fun j o' hj => ?_, ?_⟩
        · cases j with
          | zero => simp at hj; subst hj; exact e
          | succ j => exact h1 j o' (by simpa using hj)
        · rw [h2]
          cases hd : o.dst with
          | none => rfl
          | some d =>
            have : (t == d) = false := by
              have : t ≠ d := fun q => e (by rw [hd, q])
              simpa using this
            simp [Sl.put, List.lookup_cons, this]
/-- the operations that must come before -/
def bindsOn (o : Oper) : List Nat := (o.after.toList.filter (Region.binds .any)).map (·.on)
/-- the slots that an operation looks at, its guard's among them -/
def Oper.sees (l : List Oper) (o : Oper) : List Tmp := Oper.tmps o ++ match o.guard with | some (g, _) => ((l[g]?).bind (·.dst)).toList | none => []
/-- the text's order stands for all: each slot is written once; what is looked at is written before, or must not be written yet; the edges point back -/
def flowOk (n : Nat) (l : List Oper) : Bool :=
  (l.zipIdx.all fun (o, i) => o.dst.all (· < n) && (bindsOn o).all (· < i) &&
    (l.zipIdx.all fun (p, k) => (k == i || o.dst.isNone || o.dst != p.dst) &&
      (match p.dst with
       | some t => !(Oper.sees l o).contains t || k == i || (if k < i then (bindsOn o).contains k else (bindsOn p).contains i)
       | none => true)))
structure Flow (n : Nat) (l : List Oper) : Prop where
  dst : ∀ (i : Nat) (o : Oper), l[i]? = some o → o.dst.all (· < n) = true
  back : ∀ (i : Nat) (o : Oper), l[i]? = some o → ∀ j ∈ bindsOn o, j < i
  once : ∀ (i : Nat) (o : Oper) (k : Nat) (p : Oper) (t : Tmp), l[i]? = some o → l[k]? = some p → o.dst = some t → p.dst = some t → k = i
  see : ∀ (i : Nat) (o : Oper) (k : Nat) (p : Oper) (t : Tmp), l[i]? = some o → l[k]? = some p → p.dst = some t → t ∈ Oper.sees l o → k = i ∨ (k < i ∧ k ∈ bindsOn o) ∨ (i < k ∧ i ∈ bindsOn p)
theorem zipIdx_all {α : Type} {l : List α} {f : α × Nat → Bool} (h : l.zipIdx.all f = true) {i : Nat} {x : α} (hx : l[i]? = some x) : f (x, i) = true := by
  rw [List.all_eq_true] at h
  exact h _ (List.mem_zipIdx_iff_getElem?.2 hx)
theorem Flow.of {n : Nat} {l : List Oper} (h : flowOk n l = true) : Flow n l := by
  have key := fun (i : Nat) (o : Oper) (ho : l[i]? = some o) => zipIdx_all h ho
  refine ⟨fun i o ho => ?_, fun i o ho j hj => ?_, fun i o k p t ho hp h1 h2 => ?_, fun i o k p t ho hp h1 h2 => ?_⟩
  · have := key i o ho
    simp only [Bool.and_eq_true] at this
    exact this.1.1
  · have := key i o ho
    simp only [Bool.and_eq_true, List.all_eq_true, decide_eq_true_eq] at this
    exact this.1.2 j hj
  · have := key i o ho
    simp only [Bool.and_eq_true] at this
    have := zipIdx_all this.2 hp
    simp only [Bool.and_eq_true, Bool.or_eq_true, beq_iff_eq] at this
    rcases this.1 with (q | q) | q
    · exact q
    · simp [h1] at q
    · simp [h1, h2] at q
  · have := key i o ho
    simp only [Bool.and_eq_true] at this
    have := (Bool.and_eq_true _ _ ▸ zipIdx_all this.2 hp).2
    simp only [h1, Bool.or_eq_true, beq_iff_eq, Bool.not_eq_true'] at this
    rcases this with (q | q) | q
    · simp [h2] at q
    · exact Or.inl q
    · split at q
      · rename_i hlt; exact Or.inr (Or.inl ⟨hlt, by simpa using q⟩)
      · rename_i hlt
        by_cases e : k = i
        · exact Or.inl e
        · exact Or.inr (Or.inr ⟨by omega, by simpa using q⟩)
theorem count_set (n : Nat) (f : Nat → Bool) (i : Nat) (hi : i < n) (hf : f i = false) : ((List.range n).filter (fun j => !f j)).length = ((List.range n).filter (fun j => !(f j || j == i))).length + 1 := by
  induction n with
  | zero => omega
  | succ n ih =>
    rw [List.range_succ, List.filter_append, List.filter_append, List.length_append, List.length_append]
    by_cases e : i = n
    · subst e
      have : (List.range i).filter (fun j => !(f j || j == i)) = (List.range i).filter (fun j => !f j) := by
        apply List.filter_congr
        intro j hj
        have : j < i := by simpa using hj
        have : (j == i) = false := by simp; omega
        simp [this]
      rw [this]
      simp [hf]
    · have := ih (by omega)
      have hn : (n == i) = false := by simp; omega
      simp only [List.filter_cons, List.filter_nil, hn, Bool.or_false]
      omega
section
variable {P : Program} {n : Nat} {M : Mem} {l : List Oper} {al : Sl}
/-- where a run of the region stands -/
structure At (n B : Nat) (F : EH) (Mf M : Mem) (w0 : World) (ds : List Deferred) (l : List Oper) (vs : List AV) (al : Sl) (lis : Array Bool) (a : Act) (w : World) : Prop where
  size : lis.size = l.length
  closed : ∀ (k : Nat) (o : Oper), l[k]? = some o → lis[k]? = some true → ∀ j ∈ bindsOn o, lis[j]? = some true
  defers : a.defers = ds
  tmps : a.tmps.size = n
  mem : ∃ F', Ext F F' ∧ Inv B F' (M ++ Mf) w ∧ Below B w0 w ∧
    (∀ t v, al.lookup t = some v → (∀ (j : Nat) (o : Oper), l[j]? = some o → o.dst = some t → lis[j]? = some false) → t < n ∧ Rel F' v (a.tmps.getD t undef)) ∧
    (∀ (j : Nat) (o : Oper) (v : AV) (t : Tmp), l[j]? = some o → vs[j]? = some v → o.dst = some t → lis[j]? = some true → t < n ∧ Rel F' v (a.tmps.getD t undef))
theorem lis_ft {lis : Array Bool} {j : Nat} (h : j < lis.size) : lis[j]? = some true ∨ lis[j]? = some false := by
  rw [Array.getElem?_eq_getElem h]
  cases lis[j] <;> simp
/-- what operation i sees is what the text's order says -/
theorem At.sees {ds : List Deferred} {B : Nat} {F : EH} {Mf : Mem} {w0 : World} {vs : List AV} {lis : Array Bool} {a : Act} {w : World} (hfl : Flow n l) (hvl : vs.length = l.length) (h : At n B F Mf M w0 ds l vs al lis a w) {i : Nat} {o : Oper} (ho : l[i]? = some o) (hni : lis[i]? = some false) (hrd : ∀ j ∈ bindsOn o, lis[j]? = some true) :
    ∃ F', Ext F F' ∧ Inv B F' (M ++ Mf) w ∧ Below B w0 w ∧ ∀ t ∈ Oper.sees l o, ∀ v, (puts (l.take i) (vs.take i) al).lookup t = some v → t < n ∧ Rel F' v (a.tmps.getD t undef) := by
  obtain ⟨F', h1, h2, h3, h4, h5⟩ := h.mem
  refine ⟨F', h1, h2, h3, fun t ht v hv => ?_⟩
  rcases puts_lookup (l.take i) (vs.take i) al t (by simp [hvl]) with ⟨j, p, u, k1, k2, k3, k4⟩ | ⟨k1, k2⟩
  · rw [k4] at hv
    simp at hv
    subst hv
    rw [List.getElem?_take] at k1 k2
    split at k1
    · rename_i hji
      rw [if_pos hji] at k2
      rcases hfl.see i o j p t ho k1 k3 ht with q | q | q
      · omega
      · exact h5 j p u t k1 k2 k3 (hrd j q.2)
      · omega
    · simp at k1
  · rw [k2] at hv
    refine h4 t v hv (fun j p hj hd => ?_)
    have hjl : j < lis.size := by
      rw [h.size]
      rcases Nat.lt_or_ge j l.length with q | q
      · exact q
      · rw [List.getElem?_eq_none q] at hj; simp at hj
    rcases hfl.see i o j p t ho hj hd ht with q | q | q
    · subst q; exact hni
    · exact absurd hd (k1 j p (by rw [List.getElem?_take, if_pos q.1]; exact hj))
    · rcases lis_ft hjl with r | r
      · have := h.closed j p hj r i q.2
        rw [hni] at this; simp at this
      · exact r
/-- one more is done -/
theorem At.next {ds : List Deferred} {B : Nat} {F : EH} {Mf : Mem} {w0 : World} {vs : List AV} {lis : Array Bool} {a : Act} {w w' : World} (hfl : Flow n l) (h : At n B F Mf M w0 ds l vs al lis a w) {i : Nat} {o : Oper} {v : AV} {u : Value} {F1 F2 : EH} (ho : l[i]? = some o) (hv : vs[i]? = some v) (hni : lis[i]? = some false) (hrd : ∀ j ∈ bindsOn o, lis[j]? = some true)
    (hF : Ext F F1) (hF2 : Ext F1 F2) (hi : Inv B F2 (M ++ Mf) w') (hb : Below B w0 w') (hr : Rel F2 v u)
    (hold : (∀ t v, al.lookup t = some v → (∀ (j : Nat) (o : Oper), l[j]? = some o → o.dst = some t → lis[j]? = some false) → t < n ∧ Rel F1 v (a.tmps.getD t undef)) ∧
      (∀ (j : Nat) (o : Oper) (v : AV) (t : Tmp), l[j]? = some o → vs[j]? = some v → o.dst = some t → lis[j]? = some true → t < n ∧ Rel F1 v (a.tmps.getD t undef))) :
    At n B F Mf M w0 ds l vs al (lis.setIfInBounds i true) (a.put o.dst u) w' := by
  have hil : i < lis.size := by
    rcases Nat.lt_or_ge i lis.size with q | q
    · exact q
    · rw [Array.getElem?_eq_none q] at hni; simp at hni
  have hset : ∀ k, (lis.setIfInBounds i true)[k]? = if i = k then some true else lis[k]? := by
    intro k
    rw [Array.getElem?_setIfInBounds]
    by_cases e : i = k
    · subst e; simp [hil]
    · simp [e]
  have hdst := hfl.dst i o ho
  have hget : ∀ t, o.dst ≠ some t → (a.put o.dst u).tmps.getD t undef = a.tmps.getD t undef := by
    intro t ht
    cases hd : o.dst with
    | none => rfl
    | some d =>
      simp only [Act.put, Array.getD_eq_getD_getElem?, Array.getElem?_setIfInBounds]
      rw [if_neg (fun e => ht (by rw [hd, e]))]
  refine ⟨by simpa using h.size, fun k p hk hlk j hj => ?_, by cases o.dst <;> exact h.defers, by cases o.dst <;> simp [Act.put, h.tmps], F2, hF.trans hF2, hi, hb, fun t v' ht hno => ?_, fun j p v' t hj hvj hd hlj => ?_⟩
  · rw [hset] at hlk ⊢
    by_cases e : i = k
    · subst e
      rw [ho] at hk; simp at hk; subst hk
      rw [hrd j hj]; split <;> rfl
    · rw [if_neg e] at hlk
      rw [h.closed k p hk hlk j hj]; split <;> rfl
  · have hne : o.dst ≠ some t := by
      intro q
      have := hno i o ho q
      rw [hset, if_pos rfl] at this; simp at this
    rw [hget t hne]
    obtain ⟨q1, q2⟩ := hold.1 t v' ht (fun j p hj hd => by
      have := hno j p hj hd
      rw [hset] at this
      split at this
      · simp at this
      · exact this)
    exact ⟨q1, q2.mono hF2⟩
  · by_cases e : i = j
    · subst e
      rw [ho] at hj; simp at hj; subst hj
      rw [hv] at hvj; simp at hvj; subst hvj
      rw [hd] at hdst ⊢
      simp at hdst
      refine ⟨hdst, ?_⟩
      have : t < a.tmps.size := by rw [h.tmps]; exact hdst
      simpa [Act.put, Array.getD, this] using hr
    · rw [hset, if_neg e] at hlj
      have hne : o.dst ≠ some t := by
        intro q
        exact e (hfl.once j p i o t hj ho hd q).symm.symm
      rw [hget t hne]
      obtain ⟨q1, q2⟩ := hold.2 j p v' t hj hvj hd hlj
      exact ⟨q1, q2.mono hF2⟩
theorem ready_iff {lis : Array Bool} (hsz : lis.size = l.length) {i : Nat} : i ∈ Region.ready .any l.toArray lis ↔ ∃ o, l[i]? = some o ∧ lis[i]? = some false ∧ ∀ j ∈ bindsOn o, lis[j]? = some true := by
  unfold Region.ready
  rw [List.mem_filter]
  constructor
  · rintro ⟨h1, h2⟩
    simp only [List.mem_range, List.size_toArray] at h1
    obtain ⟨o, ho⟩ : ∃ o, l[i]? = some o := ⟨l[i], List.getElem?_eq_getElem h1⟩
    simp only [Bool.and_eq_true, List.getElem?_toArray, ho, Option.map_some, Option.getD_some, Bool.not_eq_true'] at h2
    refine ⟨o, ho, ?_, fun j hj => ?_⟩
    · rw [Array.getD_eq_getD_getElem?] at h2
      rcases lis_ft (lis := lis) (j := i) (by omega) with q | q
      · rw [q] at h2; simp at h2
      · exact q
    · unfold bindsOn at hj
      rw [List.mem_map] at hj
      obtain ⟨e, he, rfl⟩ := hj
      rw [List.mem_filter] at he
      have := (Array.all_eq_true'.1 h2.2) e (by simpa using he.1)
      rw [he.2] at this
      simp only [Bool.not_true, Bool.false_or, Array.getD_eq_getD_getElem?] at this
      cases q : lis[e.on]? with
      | none => rw [q] at this; simp at this
      | some b => rw [q] at this; simp at this; rw [this]
  · rintro ⟨o, ho, h1, h2⟩
    have hil : i < l.length := by
      rcases Nat.lt_or_ge i l.length with q | q
      · exact q
      · rw [List.getElem?_eq_none q] at ho; simp at ho
    refine ⟨by simpa using hil, ?_⟩
    simp only [Bool.and_eq_true, List.getElem?_toArray, ho, Option.map_some, Option.getD_some, Bool.not_eq_true']
    refine ⟨by rw [Array.getD_eq_getD_getElem?, h1]; rfl, Array.all_eq_true'.2 (fun e he => ?_)⟩
    cases hb : Region.binds .any e
    · rfl
    · have := h2 e.on (by
        unfold bindsOn
        exact List.mem_map.2 ⟨e, List.mem_filter.2 ⟨by simpa using he, hb⟩, rfl⟩)
      simp [Array.getD_eq_getD_getElem?, this]
theorem region_flow {ro : Option Nat} {ds : List Deferred} {B : Nat} {F : EH} {Mf : Mem} {w0 : World} {vs : List AV} {Q : Exit → Act → World → Prop} (hfl : Flow n l) (hvl : vs.length = l.length) (hst : ∀ (i : Nat) (o : Oper) (v : AV), l[i]? = some o → vs[i]? = some v → DStep P l o (puts (l.take i) (vs.take i) al) M v)
    (hend : ∀ a w, At n B F Mf M w0 ds l vs al (Array.replicate l.length true) a w → Q .normal a w) :
    ∀ (fuel : Nat) (lis : Array Bool) (a : Act) (w : World), ((List.range l.length).filter (fun j => !(lis[j]? == some true))).length ≤ fuel → At n B F Mf M w0 ds l vs al lis a w → wpAnyIn (RF ro) 0 P .any l.toArray Q fuel lis a w := by
  have alltrue : ∀ (lis : Array Bool) (a : Act) (w : World), At n B F Mf M w0 ds l vs al lis a w → Region.ready .any l.toArray lis = [] → Q .normal a w := by
    intro lis a w h hrd
    have hall : ∀ i, i < l.length → lis[i]? = some true := by
      intro i
      induction i using Nat.strongRecOn with
      | _ i ih =>
        intro hil
        rcases lis_ft (lis := lis) (j := i) (by rw [h.size]; exact hil) with q | q
        · exact q
        · exfalso
          have : i ∈ Region.ready .any l.toArray lis := (ready_iff h.size).2 ⟨l[i], List.getElem?_eq_getElem hil, q, fun j hj => by
            have := hfl.back i l[i] (List.getElem?_eq_getElem hil) j hj
            exact ih j this (by omega)⟩
          rw [hrd] at this; simp at this
    have e : lis = Array.replicate l.length true := by
      apply Array.ext (by simpa using h.size)
      intro i h1 h2
      have := hall i (by rw [← h.size]; exact h1)
      rw [Array.getElem?_eq_getElem h1] at this
      simpa using this
    rw [e] at h
    exact hend a w h
  intro fuel
  induction fuel with
  | zero =>
    intro lis a w hf h
    have hr : Region.ready .any l.toArray lis = [] := by
      cases hr : Region.ready .any l.toArray lis with
      | nil => rfl
      | cons i r =>
        exfalso
        obtain ⟨o, ho, h1, _⟩ := (ready_iff h.size).1 (by rw [hr]; simp : i ∈ Region.ready .any l.toArray lis)
        have hil : i < l.length := by
          rcases Nat.lt_or_ge i l.length with q | q
          · exact q
          · rw [List.getElem?_eq_none q] at ho; simp at ho
        have : i ∈ (List.range l.length).filter (fun j => !(lis[j]? == some true)) := List.mem_filter.2 ⟨by simpa using hil, by simp [h1]⟩
        have := List.length_pos_of_mem this
        omega
    exact ⟨hr, alltrue lis a w h hr⟩
  | succ fuel ih =>
    intro lis a w hf h
    refine ⟨alltrue lis a w h, fun i hi => ?_⟩
    obtain ⟨o, ho, hni, hrd⟩ := (ready_iff h.size).1 hi
    have hil : i < l.length := by
      rcases Nat.lt_or_ge i l.length with q | q
      · exact q
      · rw [List.getElem?_eq_none q] at ho; simp at ho
    obtain ⟨v, hv⟩ : ∃ v, vs[i]? = some v := ⟨vs[i]'(by omega), List.getElem?_eq_getElem (by omega)⟩
    have hcount : ((List.range l.length).filter (fun j => !((lis.setIfInBounds i true)[j]? == some true))).length ≤ fuel := by
      have h1 := count_set l.length (fun j => lis[j]? == some true) i hil (by simp [hni])
      have h2 : (List.range l.length).filter (fun j => !((lis.setIfInBounds i true)[j]? == some true)) = (List.range l.length).filter (fun j => !((lis[j]? == some true) || j == i)) := by
        apply List.filter_congr
        intro j hj
        rw [Array.getElem?_setIfInBounds]
        by_cases e : i = j
        · subst e
          rw [if_pos rfl, if_pos (by rw [h.size]; exact hil)]; simp
        · rw [if_neg e]
          have : (j == i) = false := by simp; omega
          simp [this]
      rw [h2]
      omega
    obtain ⟨F0, m1, m2, m3, m4, m5⟩ := h.mem
    have hat := At.sees hfl hvl (h := ⟨h.size, h.closed, h.defers, h.tmps, F0, m1, m2, m3, m4, m5⟩) ho hni hrd
    have hsees : ∀ t ∈ Oper.sees l o, ∀ v, (puts (l.take i) (vs.take i) al).lookup t = some v → t < n ∧ Rel F0 v (a.tmps.getD t undef) := by
      intro t ht v hv
      rcases puts_lookup (l.take i) (vs.take i) al t (by simp [hvl]) with ⟨j, p, u, k1, k2, k3, k4⟩ | ⟨k1, k2⟩
      · rw [k4] at hv
        simp at hv
        subst hv
        rw [List.getElem?_take] at k1 k2
        split at k1
        · rename_i hji
          rw [if_pos hji] at k2
          rcases hfl.see i o j p t ho k1 k3 ht with q | q | q
          · omega
          · exact m5 j p u t k1 k2 k3 (hrd j q.2)
          · omega
        · simp at k1
      · rw [k2] at hv
        refine m4 t v hv (fun j p hj hd => ?_)
        have hjl : j < lis.size := by
          rw [h.size]
          rcases Nat.lt_or_ge j l.length with q | q
          · exact q
          · rw [List.getElem?_eq_none q] at hj; simp at hj
        rcases hfl.see i o j p t ho hj hd ht with q | q | q
        · subst q; exact hni
        · exact absurd hd (k1 j p (by rw [List.getElem?_take, if_pos q.1]; exact hj))
        · rcases lis_ft hjl with r | r
          · have := h.closed j p hj r i q.2
            rw [hni] at this; simp at this
          · exact r
    clear hat
    have hslots : Slots n F0 ((puts (l.take i) (vs.take i) al).only (Oper.tmps o)) a.tmps := by
      refine ⟨h.tmps, fun t v' e => ?_⟩
      rw [only_lookup] at e
      split at e
      · rename_i hc
        exact hsees t (by unfold Oper.sees; exact List.mem_append_left _ (by simpa using hc)) v' e
      · simp at e
    have done : ∀ (o' : Oper), o'.dst = o.dst → OpT P o' ((puts (l.take i) (vs.take i) al).only (Oper.tmps o)) M (fun v' M' => v' = v ∧ M' = M) → o'.wpIn (RF ro) 0 P a w (wpAnyIn (RF ro) 0 P .any l.toArray Q fuel (lis.setIfInBounds i true)) Q := by
      intro o' hd' hop
      refine wp_exits (Oper.wpIn_mono ?_ (hop n B F0 Mf a w m2 hslots ro))
      rintro a' w' ⟨u, v', M', F2, rfl, ⟨rfl, rfl⟩, hr, hF2, hi2, hb2⟩
      rw [hd']
      exact ih _ _ _ hcount (h.next hfl ho hv hni hrd m1 hF2 hi2 (m3.trans hb2) hr ⟨m4, m5⟩)
    have skip : v = .val undef → wpAnyIn (RF ro) 0 P .any l.toArray Q fuel (lis.setIfInBounds i true) (a.put o.dst undef) w := by
      intro e
      subst e
      exact ih _ _ _ hcount (h.next hfl ho hv hni hrd m1 (Ext.refl _) m2 m3 (.val _) ⟨m4, m5⟩)
    have hs := hst i o v ho hv
    unfold wpOpIn
    simp only [List.getElem?_toArray, ho]
    unfold DStep at hs
    cases hg : o.guard with
    | none =>
      rw [hg] at hs
      rw [if_pos (by simp [Region.wanted, hg])]
      exact done o rfl hs
    | some gb =>
      obtain ⟨g, b⟩ := gb
      rw [hg] at hs
      obtain ⟨t, ht, hs⟩ := hs
      have htin : t ∈ Oper.sees l o := by
        unfold Oper.sees
        rw [hg]
        exact List.mem_append_right _ (by simp [ht])
      have slot : ∀ x, (puts (l.take i) (vs.take i) al).lookup t = some (.val x) → a.tmps[t]? = some x := by
        intro x hx
        obtain ⟨q1, q2⟩ := hsees t htin _ hx
        have h4 : t < a.tmps.size := by rw [h.tmps]; exact q1
        generalize hy : a.tmps.getD t undef = y at q2
        cases q2
        rw [Array.getElem?_eq_getElem h4]
        simpa [Array.getD, h4] using hy
      have want : ∀ x, a.tmps[t]? = some x → Region.wanted o (yielded l.toArray a.tmps) = ((match some x with | some (.bool b) => some b | _ => none) == some b) := by
        intro x hx
        simp only [Region.wanted, hg, yielded, List.getElem?_toArray, ht, Option.bind_some, hx]
        cases x <;> rfl
      rcases hs with ⟨h1, h2⟩ | ⟨h1, h2⟩
      · rw [if_pos (by rw [want _ (slot _ h1)]; simp)]
        have := done { o with guard := none } rfl h2
        exact this
      · rcases h1 with h1 | h1
        · rw [if_neg (by rw [want _ (slot _ h1)]; cases b <;> simp)]
          exact ⟨fun _ _ => trivial, skip h2⟩
        · rw [if_neg (by rw [want _ (slot _ h1)]; simp [undef])]
          exact ⟨fun _ _ => trivial, skip h2⟩
/-- a region whose order is drawn, and that writes nothing -/
theorem ACode.drawn {ro : Option Nat} {Q : Exit → Sl → Mem → Prop} {id : Nat} (hmix : P.follows .mixedOrders = true) (hfl : flowOk n l = true) (h : DOps P l M (fun al' => Q .normal al' M) l al) : ACode ro P n (.region id l.toArray true) Q al M := by
  intro B F Mf a w hi hs
  have hF := Flow.of hfl
  obtain ⟨vs, hvl, hQ, hst⟩ := h.table
  refine wpIn_region_any hmix (region_flow (ds := a.defers) (al := al) (M := M) (B := B) (F := F) (Mf := Mf) (w0 := w) hF hvl hst ?_ _ _ _ _ ?_ ?_)
  · intro a' w' hat
    obtain ⟨F', m1, m2, m3, m4, m5⟩ := hat.mem
    refine ⟨[], F', _, M, hQ, m1, m2, ⟨hat.tmps, fun t v e => ?_⟩, hat.defers, m3⟩
    rcases puts_lookup l vs al t hvl with ⟨j, o, u, k1, k2, k3, k4⟩ | ⟨k1, k2⟩
    · rw [k4] at e
      simp at e; subst e
      refine m5 j o u t k1 k2 k3 ?_
      have : j < l.length := by
        rcases Nat.lt_or_ge j l.length with q | q
        · exact q
        · rw [List.getElem?_eq_none q] at k1; simp at k1
      simp [this]
    · rw [k2] at e
      exact m4 t v e (fun j o hj hdj => absurd hdj (k1 j o hj))
  · have := List.length_filter_le (fun j => !((Array.replicate l.length false)[j]? == some true)) (List.range l.length)
    simpa using this
  · refine ⟨by simp, fun k o hk hlk => ?_, rfl, hs.1, F, Ext.refl F, hi.drew, (Below.refl _ _).drew, fun t v e _ => hs.2 t v e, fun j o v t hj _ _ hlj => ?_⟩
    · rw [Array.getElem?_replicate] at hlk; split at hlk <;> simp at hlk
    · rw [Array.getElem?_replicate] at hlj; split at hlj <;> simp at hlj
theorem DOps.step {ops : List Oper} {Q : Sl → Prop} {o : Oper} {rest : List Oper} {v : AV} (hg : o.guard = none) (h : OpT P o (al.only (Oper.tmps o)) M (fun v' M' => v' = v ∧ M' = M)) (q : DOps P ops M Q rest (al.put o.dst v)) : DOps P ops M Q (o :: rest) al :=
  ⟨v, by unfold DStep; rw [hg]; exact h, q⟩
theorem DOps.cmp {ops : List Oper} {Q : Sl → Prop} {o : Oper} {rest : List Oper} {p : Prop} (hg : o.guard = none) (h : ∀ K : AV → Mem → Prop, (∀ c : Bool, (c = true ↔ p) → K (.val (.bool c)) M) → OpT P o (al.only (Oper.tmps o)) M K) (q : ∀ c : Bool, (c = true ↔ p) → DOps P ops M Q rest (al.put o.dst (.val (.bool c)))) : DOps P ops M Q (o :: rest) al := by
  have : ∃ c : Bool, c = true ↔ p := by
    by_cases hp : p
    · exact ⟨true, by simp [hp]⟩
    · exact ⟨false, by simp [hp]⟩
  obtain ⟨c, hc⟩ := this
  refine DOps.step hg (h _ (fun c' hc' => ⟨?_, rfl⟩)) (q c hc)
  have : c' = c := by cases c <;> cases c' <;> simp_all
  rw [this]
theorem DOps.guard {ops : List Oper} {Q : Sl → Prop} {o : Oper} {rest : List Oper} {j : Nat} {b c : Bool} {t : Tmp} (hg : o.guard = some (j, b)) (hj : (ops[j]?).bind (·.dst) = some t) (hc : al.lookup t = some (.val (.bool c)))
    (h1 : c = b → DOps P ops M Q ({ o with guard := none } :: rest) al) (h2 : c = !b → DOps P ops M Q rest (al.put o.dst (.val undef))) : DOps P ops M Q (o :: rest) al := by
  by_cases e : c = b
  · obtain ⟨v, k1, k2⟩ := h1 e
    refine ⟨v, ?_, k2⟩
    unfold DStep at k1 ⊢
    rw [hg]
    exact ⟨t, hj, .inl ⟨by rw [hc, e], k1⟩⟩
  · have e' : c = !b := by cases c <;> cases b <;> simp at e ⊢
    refine ⟨.val undef, ?_, h2 e'⟩
    unfold DStep
    rw [hg]
    exact ⟨t, hj, .inr ⟨.inl (by rw [hc, e']), rfl⟩⟩
theorem DOps.unguard {ops : List Oper} {Q : Sl → Prop} {o : Oper} {rest : List Oper} {j : Nat} {b : Bool} {t : Tmp} (hg : o.guard = some (j, b)) (hj : (ops[j]?).bind (·.dst) = some t) (hc : al.lookup t = some (.val undef))
    (h2 : DOps P ops M Q rest (al.put o.dst (.val undef))) : DOps P ops M Q (o :: rest) al := by
  refine ⟨.val undef, ?_, h2⟩
  unfold DStep
  rw [hg]
  exact ⟨t, hj, .inr ⟨.inr hc, rfl⟩⟩
end
end Go.Proofs.Ytflkdojahfmbnaa
