/- Parts of a proof: A logic of trees, part 8: regions whose order is drawn, and that write: the operations that write are in one order by the edges; the others stand before the first that they need not follow.; A logic of trees, part 9: calls that take memory along; a store into a row that a call made.; A logic of trees, part 10: ranges over a function: the loop's record as a resource, a call of yield, an iterator's contract, and the statement.; A logic of trees, part 11: rows: slices whose cells may turn; pure calls that look at a row; boxes that become eternal.; The logic of trees, part 12: loops and joins that keep the slots that they do not turn.; The logic of trees, part 13: a slice of a slice, an element of an array.; The logic of trees, part 16: pointers into rows: index, load, store; appending to a row, its block known; a part of a row as a source; arrays within a variable.; The logic of trees, part 17: calls that take pieces of the memory along, by their places.; The logic of trees, part 14: array literals.; The logic of trees, part 15: bits and shifts of numbers. -/
import Derived.Test.YtecpnlhjjmcllaaJLSTwo1
import Derived.RangeFuncRecord
import Derived.RangeFuncSeq
import Derived.Laws.Entries
namespace Go.Proofs.Ytecpnlhjjmcllaa
open Go.RowKit
/-- the memory that an operation reads: none, or one piece by its place -/
def fpm (M : Mem) : Option Nat → Mem
  | none => []
  | some k => (M[k]?).toList
/-- the region, in an order of our own: ws are the operations that write; L says which pieces were read by whom; anc b: what must come before b -/
def EOps (P : Program) (ops : List Oper) (ws : List Nat) (anc : List (List Nat)) (Q : Sl → Mem → Prop) : List Nat → Sl → Mem → List (Nat × Nat) → Prop
  | [], al, M, _ => Q al M
  | i :: ord, al, M, L => ∃ o, ops[i]? = some o ∧
      if ws.contains i then o.guard = none ∧
        ((∃ k r, M[k]? = some r ∧ (L.all fun x => x.2 != k || (anc.getD i []).contains x.1) = true ∧ OpT P o (al.only (Oper.tmps o)) [r] (fun v M' => ∃ r', M' = [r'] ∧ EOps P ops ws anc Q ord (al.put o.dst v) (M.set k r') L)) ∨
         OpT P o (al.only (Oper.tmps o)) [] (fun v M' => EOps P ops ws anc Q ord (al.put o.dst v) (M ++ M') L) ∨
         ((L.all fun x => (anc.getD i []).contains x.1) = true ∧ OpT P o (al.only (Oper.tmps o)) M (fun v M' => EOps P ops ws anc Q ord (al.put o.dst v) M' [])))
      else ∃ (fp : Option Nat) (v : AV), fp.all (fun k => Nat.blt k M.length) = true ∧ DStep P ops o al (fpm M fp) v ∧ EOps P ops ws anc Q ord (al.put o.dst v) M ((fp.toList.map fun k => (i, k)) ++ L)
/-- a comes before b in ord -/
def befo (ord : List Nat) (a b : Nat) : Bool := (ord.idxOf a) < (ord.idxOf b)
/-- the order is one that the edges allow; what must come before is told rightly; writers are followed only by what must follow them; slots flow -/
def flowE (n : Nat) (l : List Oper) (ord ws : List Nat) (anc : List (List Nat)) : Bool :=
  (ord.length == l.length && (List.range l.length).all (ord.contains ·) && decide ord.Nodup && ord.all (fun i => Nat.blt i l.length)) &&
  (l.zipIdx.all fun (o, i) => o.dst.all (· < n) && (bindsOn o).all (fun j => j < i) &&
    (anc.getD i []).all (fun a => (bindsOn o).contains a || (bindsOn o).any (fun c => (anc.getD c []).contains a))) &&
  (ws.all fun j => (List.range l.length).all fun i => i == j || befo ord i j || (anc.getD i []).contains j) &&
  (l.zipIdx.all fun (o, i) => l.zipIdx.all fun (p, k) => (k == i || o.dst.isNone || o.dst != p.dst) &&
      (match p.dst with
       | some t => !(Oper.sees l o).contains t || k == i || (if befo ord k i then (anc.getD i []).contains k else (anc.getD k []).contains i)
       | none => true))
structure FlowE (n : Nat) (l : List Oper) (ord ws : List Nat) (anc : List (List Nat)) : Prop where
  nodup : ord.Nodup
  mem : ∀ i, i < l.length → i ∈ ord
  lt : ∀ i ∈ ord, i < l.length
  dst : ∀ (i : Nat) (o : Oper), l[i]? = some o → o.dst.all (· < n) = true
  back : ∀ (i : Nat) (o : Oper), l[i]? = some o → ∀ j ∈ bindsOn o, j < i
  ancs : ∀ (i : Nat) (o : Oper), l[i]? = some o → ∀ a ∈ anc.getD i [], a ∈ bindsOn o ∨ ∃ c ∈ bindsOn o, a ∈ anc.getD c []
  wild : ∀ j ∈ ws, ∀ i, i < l.length → i = j ∨ befo ord i j = true ∨ j ∈ anc.getD i []
  once : ∀ (i : Nat) (o : Oper) (k : Nat) (p : Oper) (t : Tmp), l[i]? = some o → l[k]? = some p → o.dst = some t → p.dst = some t → k = i
  see : ∀ (i : Nat) (o : Oper) (k : Nat) (p : Oper) (t : Tmp), l[i]? = some o → l[k]? = some p → p.dst = some t → t ∈ Oper.sees l o → k = i ∨ (befo ord k i = true ∧ k ∈ anc.getD i []) ∨ (befo ord k i = false ∧ i ∈ anc.getD k [])
theorem all_range {n : Nat} {p : Nat → Bool} (h : (List.range n).all p = true) {i : Nat} (hi : i < n) : p i = true := List.all_eq_true.1 h i (by simpa using hi)
theorem FlowE.of {n : Nat} {l : List Oper} {ord ws : List Nat} {anc : List (List Nat)} (h : flowE n l ord ws anc = true) : FlowE n l ord ws anc := by
  unfold flowE at h
  simp only [Bool.and_eq_true] at h
  obtain ⟨⟨⟨⟨⟨⟨_, h2⟩, h3⟩, h7⟩, h4⟩, h5⟩, h6⟩ := h
  have hmem : ∀ i, i < l.length → i ∈ ord := fun i hi => by simpa using all_range h2 hi
  refine ⟨by simpa using h3, hmem, fun i hi => by simpa [Nat.blt_eq] using List.all_eq_true.1 h7 i hi, fun i o ho => ?_, fun i o ho j hj => ?_, fun i o ho a ha => ?_, fun j hj i hi => ?_, fun i o k p t ho hp e1 e2 => ?_, fun i o k p t ho hp e1 e2 => ?_⟩
  · have := zipIdx_all h4 ho
    simp only [Bool.and_eq_true] at this
    exact this.1.1
  · have := zipIdx_all h4 ho
    simp only [Bool.and_eq_true, List.all_eq_true, decide_eq_true_eq] at this
    exact this.1.2 j hj
  · have := zipIdx_all h4 ho
    simp only [Bool.and_eq_true, List.all_eq_true] at this
    have := this.2 a ha
    simp only [Bool.or_eq_true, List.contains_iff_mem, List.any_eq_true] at this
    exact this
  · have := all_range (List.all_eq_true.1 h5 j hj) hi
    simp only [Bool.or_eq_true, beq_iff_eq, List.contains_iff_mem] at this
    rcases this with (q | q) | q
    · exact Or.inl q
    · exact Or.inr (Or.inl q)
    · exact Or.inr (Or.inr q)
  · have := zipIdx_all (zipIdx_all h6 ho) hp
    simp only [Bool.and_eq_true, Bool.or_eq_true, beq_iff_eq] at this
    rcases this.1 with (q | q) | q
    · exact q
    · simp [e1] at q
    · simp [e1, e2] at q
  · have := (Bool.and_eq_true _ _ ▸ zipIdx_all (zipIdx_all h6 ho) hp).2
    simp only [e1, Bool.or_eq_true, beq_iff_eq, Bool.not_eq_true'] at this
    rcases this with (q | q) | q
    · simp [e2] at q
    · exact Or.inl q
    · split at q
      · rename_i hb; exact Or.inr (Or.inl ⟨hb, by simpa using q⟩)
      · rename_i hb
        by_cases e : k = i
        · exact Or.inl e
        · exact Or.inr (Or.inr ⟨by simpa using hb, by simpa using q⟩)
/-- the slots behind operations, by their numbers -/
def putsI (l : List Oper) (pv : Nat → AV) : List Nat → Sl → Sl
  | [], al => al
  | k :: ks, al => putsI l pv ks (al.put ((l[k]?).bind (·.dst)) (pv k))
theorem putsI_app (l : List Oper) (pv : Nat → AV) : ∀ (a b : List Nat) (al : Sl), putsI l pv (a ++ b) al = putsI l pv b (putsI l pv a al)
  | [], b, al => rfl
  | k :: a, b, al => by rw [List.cons_append, putsI, putsI]; exact putsI_app l pv a b _
theorem putsI_congr (l : List Oper) (pv pv' : Nat → AV) : ∀ (ks : List Nat) (al : Sl), (∀ k ∈ ks, pv k = pv' k) → putsI l pv ks al = putsI l pv' ks al
  | [], al, _ => rfl
  | k :: ks, al, h => by rw [putsI, putsI, h k (by simp)]; exact putsI_congr l pv pv' ks _ (fun x hx => h x (by simp [hx]))
theorem putsI_lookup (l : List Oper) (pv : Nat → AV) : ∀ (ks : List Nat) (al : Sl) (t : Tmp), (∃ k o, k ∈ ks ∧ l[k]? = some o ∧ o.dst = some t ∧ (putsI l pv ks al).lookup t = some (pv k)) ∨ ((∀ k o, k ∈ ks → l[k]? = some o → o.dst ≠ some t) ∧ (putsI l pv ks al).lookup t = al.lookup t)
  | [], al, t => Or.inr ⟨by simp, rfl⟩
  | k :: ks, al, t => by
    rw [putsI]
    rcases putsI_lookup l pv ks (al.put ((l[k]?).bind (·.dst)) (pv k)) t with ⟨j, o, h1, h2, h3, h4⟩ | ⟨h1, h2⟩
    · exact Or.inl ⟨j, o, by simp [h1], h2, h3, h4⟩
    · by_cases e : (l[k]?).bind (·.dst) = some t
      · obtain ⟨o, ho, hd⟩ := Option.bind_eq_some_iff.1 e
        refine Or.inl ⟨k, o, by simp, ho, hd, ?_⟩
        rw [h2, e]; simp [Sl.put]
      · refine Or.inr ⟨fun j o hj ho hd => ?_, ?_⟩
        · rcases List.mem_cons.1 hj with rfl | hj
          · exact e (by rw [ho]; exact hd)
          · exact h1 j o hj ho hd
        · rw [h2]
          cases hd : (l[k]?).bind (·.dst) with
          | none => rfl
          | some d =>
            have : (t == d) = false := by
              have : t ≠ d := fun q => e (by rw [hd, q])
              simpa using this
            simp [Sl.put, List.lookup_cons, this]
theorem befo_split {ord a b : List Nat} {i k : Nat} (hn : ord.Nodup) (he : ord = a ++ i :: b) : (k ∈ a → befo ord k i = true) ∧ (k ∈ b → befo ord k i = false) := by
  subst he
  rw [List.nodup_append] at hn
  obtain ⟨h1, h2, h3⟩ := hn
  have hia : i ∉ a := fun h => h3 i h i (by simp) rfl
  have ei : (a ++ i :: b).idxOf i = a.length := by rw [List.idxOf_append]; simp [hia]
  constructor
  · intro hk
    have : (a ++ i :: b).idxOf k = a.idxOf k := by rw [List.idxOf_append, if_pos hk]
    unfold befo
    rw [ei, this]
    simpa using List.idxOf_lt_length_iff.2 hk
  · intro hk
    have hka : k ∉ a := fun h => h3 k h k (by simp [hk]) rfl
    have : (a ++ i :: b).idxOf k = (i :: b).idxOf k + a.length := by rw [List.idxOf_append, if_neg hka]
    unfold befo
    rw [ei, this]
    simp
section
variable {P : Program} {n : Nat} {l : List Oper} {ord ws : List Nat} {anc : List (List Nat)} {QQ : Sl → Mem → Prop} {al : Sl}
/-- where a run stands -/
structure AtE (P : Program) (n B : Nat) (F : EH) (Mf : Mem) (w0 : World) (ds : List Deferred) (l : List Oper) (ord ws : List Nat) (anc : List (List Nat)) (QQ : Sl → Mem → Prop) (al : Sl) (lis : Array Bool) (a : Act) (w : World) (pr rest : List Nat) (pv : Nat → AV) (M : Mem) (L : List (Nat × Nat)) : Prop where
  size : lis.size = l.length
  closed : ∀ (k : Nat) (o : Oper), l[k]? = some o → lis[k]? = some true → ∀ j ∈ bindsOn o, lis[j]? = some true
  defers : a.defers = ds
  tmps : a.tmps.size = n
  ord : ord = pr ++ rest
  done : ∀ k, lis[k]? = some true → k ∈ pr
  wild : ∀ k ∈ pr, k ∈ ws → lis[k]? = some true
  next : rest = [] ∨ ∃ j rest', rest = j :: rest' ∧ j ∈ ws
  eops : EOps P l ws anc QQ rest (putsI l pv pr al) M L
  lenL : ∀ x ∈ L, x.2 < M.length
  steps : ∀ p1 i p2, pr = p1 ++ i :: p2 → i ∉ ws → lis[i]? = some false → ∃ o fp, l[i]? = some o ∧ (∀ p, fp = some p → (i, p) ∈ L) ∧ DStep P l o (putsI l pv p1 al) (fpm M fp) (pv i)
  mem : ∃ F', Ext F F' ∧ Inv B F' (M ++ Mf) w ∧ Below B w0 w ∧
    (∀ t v, al.lookup t = some v → (∀ (j : Nat) (o : Oper), l[j]? = some o → o.dst = some t → lis[j]? = some false) → t < n ∧ Rel F' v (a.tmps.getD t undef)) ∧
    (∀ (j : Nat) (o : Oper) (t : Tmp), l[j]? = some o → o.dst = some t → lis[j]? = some true → t < n ∧ Rel F' (pv j) (a.tmps.getD t undef))
theorem closed_anc (hfl : FlowE n l ord ws anc) {lis : Array Bool} (hc : ∀ (k : Nat) (o : Oper), l[k]? = some o → lis[k]? = some true → ∀ j ∈ bindsOn o, lis[j]? = some true) : ∀ (i : Nat) (o : Oper), l[i]? = some o → (∀ j ∈ bindsOn o, lis[j]? = some true) → ∀ a ∈ anc.getD i [], lis[a]? = some true := by
  intro i
  induction i using Nat.strongRecOn with
  | _ i ih =>
    intro o ho hb a ha
    rcases hfl.ancs i o ho a ha with q | ⟨c, hc1, hc2⟩
    · exact hb a q
    · have hci := hfl.back i o ho c hc1
      have hil : i < l.length := by
        rcases Nat.lt_or_ge i l.length with k | k
        · exact k
        · rw [List.getElem?_eq_none k] at ho; simp at ho
      have hcl : l[c]? = some l[c] := List.getElem?_eq_getElem (by omega)
      exact ih c hci l[c] hcl (hc c l[c] hcl (hb c hc1)) a hc2
/-- go through what does not write, up to the next that does -/
theorem advance (hnd : ord.Nodup) (M : Mem) (lis : Array Bool) : ∀ (rest pr : List Nat) (pv : Nat → AV) (L : List (Nat × Nat)), ord = pr ++ rest → EOps P l ws anc QQ rest (putsI l pv pr al) M L → (∀ x ∈ L, x.2 < M.length) →
    (∀ p1 i p2, pr = p1 ++ i :: p2 → i ∉ ws → lis[i]? = some false → ∃ o fp, l[i]? = some o ∧ (∀ p, fp = some p → (i, p) ∈ L) ∧ DStep P l o (putsI l pv p1 al) (fpm M fp) (pv i)) →
    ∃ pr' rest' pv' L', ord = pr' ++ rest' ∧ (rest' = [] ∨ ∃ j r, rest' = j :: r ∧ j ∈ ws) ∧ EOps P l ws anc QQ rest' (putsI l pv' pr' al) M L' ∧ (∀ x ∈ L', x.2 < M.length) ∧ (∀ k ∈ pr, k ∈ pr') ∧ (∀ k ∈ pr', k ∈ ws → k ∈ pr) ∧ (∀ k ∈ pr, pv' k = pv k) ∧
      (∀ p1 i p2, pr' = p1 ++ i :: p2 → i ∉ ws → lis[i]? = some false → ∃ o fp, l[i]? = some o ∧ (∀ p, fp = some p → (i, p) ∈ L') ∧ DStep P l o (putsI l pv' p1 al) (fpm M fp) (pv' i)) := by
  intro rest
  induction rest with
  | nil => intro pr pv L ho he hlL hs; exact ⟨pr, [], pv, L, ho, Or.inl rfl, he, hlL, fun k h => h, fun k h _ => h, fun _ _ => rfl, hs⟩
  | cons i rest ih =>
    intro pr pv L ho he hlL hs
    by_cases hw : i ∈ ws
    · exact ⟨pr, i :: rest, pv, L, ho, Or.inr ⟨i, rest, rfl, hw⟩, he, hlL, fun k h => h, fun k h _ => h, fun _ _ => rfl, hs⟩
    · obtain ⟨o, ho', he⟩ := he
      rw [if_neg (by simpa using hw)] at he
      obtain ⟨fp, v, h0, h1, h2⟩ := he
      have hip : i ∉ pr := by
        intro h
        rw [ho, List.nodup_append] at hnd
        exact hnd.2.2 i h i (by simp) rfl
      let pv' : Nat → AV := fun x => if x = i then v else pv x
      have hpv : ∀ k ∈ pr, pv' k = pv k := fun k hk => if_neg (fun e => hip (by rw [← e]; exact hk))
      have hpi : pv' i = v := if_pos rfl
      have heq : putsI l pv' pr al = putsI l pv pr al := putsI_congr l pv' pv pr al hpv
      obtain ⟨pr2, rest2, pv2, L2, q1, q2, q3, q0, q4, q5, q6, q7⟩ := ih (pr ++ [i]) pv' ((fp.toList.map fun k => (i, k)) ++ L) (by rw [ho]; simp) (by
        rw [putsI_app, heq]
        simp only [putsI, ho', Option.bind_some, hpi]
        exact h2) (by
        intro x hx
        rcases List.mem_append.1 hx with hx | hx
        · cases fp with
          | none => simp at hx
          | some k =>
            simp at hx
            subst hx
            simpa [Nat.blt_eq] using h0
        · exact hlL x hx) (by
        intro p1 j p2 hsp hj hl
        rcases List.eq_nil_or_concat p2 with rfl | ⟨p2', y, rfl⟩
        · have e2 : pr = p1 ∧ i = j := by
            have := List.append_inj' hsp rfl
            exact ⟨this.1, by simpa using this.2⟩
          obtain ⟨rfl, rfl⟩ := e2
          exact ⟨o, fp, ho', fun p hp => by subst hp; simp, by rw [heq, hpi]; exact h1⟩
        · have e2 : pr = p1 ++ j :: p2' ∧ i = y := by
            rw [List.concat_eq_append, show p1 ++ j :: (p2' ++ [y]) = (p1 ++ j :: p2') ++ [y] from by simp] at hsp
            have := List.append_inj' hsp rfl
            exact ⟨this.1, by simpa using this.2⟩
          obtain ⟨e3, _⟩ := e2
          obtain ⟨o', fp', k1, k2, k3⟩ := hs p1 j p2' e3 hj hl
          refine ⟨o', fp', k1, fun p hp => List.mem_append_right _ (k2 p hp), ?_⟩
          rw [putsI_congr l pv' pv p1 al (fun k hk => hpv k (by rw [e3]; simp [hk])), hpv j (by rw [e3]; simp)]
          exact k3)
      exact ⟨pr2, rest2, pv2, L2, q1, q2, q3, q0, fun k hk => q4 k (by simp [hk]), fun k hk hkw => by
        rcases List.mem_append.1 (q5 k hk hkw) with h | h
        · exact h
        · simp at h; subst h; exact absurd hkw hw, fun k hk => (q6 k (by simp [hk])).trans (hpv k hk), q7⟩
/-- what operation i sees -/
theorem AtE.sees {ds : List Deferred} {B : Nat} {F : EH} {Mf : Mem} {w0 : World} {lis : Array Bool} {a : Act} {w : World} {pr rest : List Nat} {pv : Nat → AV} {M : Mem} {L : List (Nat × Nat)} (hfl : FlowE n l ord ws anc) (h : AtE P n B F Mf w0 ds l ord ws anc QQ al lis a w pr rest pv M L) {F' : EH}
    (h4 : ∀ t v, al.lookup t = some v → (∀ (j : Nat) (o : Oper), l[j]? = some o → o.dst = some t → lis[j]? = some false) → t < n ∧ Rel F' v (a.tmps.getD t undef))
    (h5 : ∀ (j : Nat) (o : Oper) (t : Tmp), l[j]? = some o → o.dst = some t → lis[j]? = some true → t < n ∧ Rel F' (pv j) (a.tmps.getD t undef))
    {i : Nat} {o : Oper} (ho : l[i]? = some o) (hni : lis[i]? = some false) (hrd : ∀ j ∈ bindsOn o, lis[j]? = some true) {p1 p2 : List Nat} (hsp : ord = p1 ++ i :: p2) :
    ∀ t ∈ Oper.sees l o, ∀ v, (putsI l pv p1 al).lookup t = some v → t < n ∧ Rel F' v (a.tmps.getD t undef) := by
  intro t ht v hv
  have hanc := closed_anc hfl h.closed i o ho hrd
  rcases putsI_lookup l pv p1 al t with ⟨j, p, k1, k2, k3, k4⟩ | ⟨k1, k2⟩
  · rw [k4] at hv
    simp at hv
    subst hv
    have hb := (befo_split hfl.nodup hsp (k := j)).1 k1
    rcases hfl.see i o j p t ho k2 k3 ht with q | q | q
    · subst q; exfalso
      have := hfl.nodup
      rw [hsp, List.nodup_append] at this
      exact this.2.2 j k1 j (by simp) rfl
    · exact h5 j p t k2 k3 (hanc j q.2)
    · rw [hb] at q; simp at q
  · rw [k2] at hv
    refine h4 t v hv (fun j p hj hd => ?_)
    have hjl : j < lis.size := by
      rw [h.size]
      rcases Nat.lt_or_ge j l.length with q | q
      · exact q
      · rw [List.getElem?_eq_none q] at hj; simp at hj
    rcases hfl.see i o j p t ho hj hd ht with q | q | q
    · subst q; exact hni
    · exfalso
      have hjo := hfl.mem j (by rw [← h.size]; exact hjl)
      rw [hsp] at hjo
      rcases List.mem_append.1 hjo with r | r
      · exact k1 j p r hj hd
      · rcases List.mem_cons.1 r with r | r
        · subst r; rw [befo] at q; simp at q
        · have := (befo_split hfl.nodup hsp (k := j)).2 r
          rw [this] at q; simp at q
    · rcases lis_ft hjl with r | r
      · have := closed_anc hfl h.closed j p hj (h.closed j p hj r) i q.2
        rw [hni] at this; simp at this
      · exact r
theorem set_lis {lis : Array Bool} {i : Nat} (hni : lis[i]? = some false) (k : Nat) : (lis.setIfInBounds i true)[k]? = if i = k then some true else lis[k]? := by
  have hil : i < lis.size := by
    rcases Nat.lt_or_ge i lis.size with q | q
    · exact q
    · rw [Array.getElem?_eq_none q] at hni; simp at hni
  rw [Array.getElem?_setIfInBounds]
  by_cases e : i = k
  · subst e; simp [hil]
  · simp [e]
/-- slots behind one more operation -/
theorem slots_next (hfl : FlowE n l ord ws anc) {lis : Array Bool} {a : Act} {F1 F2 : EH} {i : Nat} {o : Oper} {pv pv' : Nat → AV} {u : Value} (ho : l[i]? = some o) (hni : lis[i]? = some false) (htm : a.tmps.size = n) (hF2 : Ext F1 F2) (hr : Rel F2 (pv' i) u) (hpv : ∀ k, lis[k]? = some true → pv' k = pv k)
    (h4 : ∀ t v, al.lookup t = some v → (∀ (j : Nat) (o : Oper), l[j]? = some o → o.dst = some t → lis[j]? = some false) → t < n ∧ Rel F1 v (a.tmps.getD t undef))
    (h5 : ∀ (j : Nat) (o : Oper) (t : Tmp), l[j]? = some o → o.dst = some t → lis[j]? = some true → t < n ∧ Rel F1 (pv j) (a.tmps.getD t undef)) :
    (∀ t v, al.lookup t = some v → (∀ (j : Nat) (o : Oper), l[j]? = some o → o.dst = some t → (lis.setIfInBounds i true)[j]? = some false) → t < n ∧ Rel F2 v ((a.put o.dst u).tmps.getD t undef)) ∧
    (∀ (j : Nat) (o' : Oper) (t : Tmp), l[j]? = some o' → o'.dst = some t → (lis.setIfInBounds i true)[j]? = some true → t < n ∧ Rel F2 (pv' j) ((a.put o.dst u).tmps.getD t undef)) := by
  have hdst := hfl.dst i o ho
  have hget : ∀ t, o.dst ≠ some t → (a.put o.dst u).tmps.getD t undef = a.tmps.getD t undef := by
    intro t ht
    cases hd : o.dst with
    | none => rfl
    | some d =>
      simp only [Act.put, Array.getD_eq_getD_getElem?, Array.getElem?_setIfInBounds]
      rw [if_neg (fun e => ht (by rw [hd, e]))]
  constructor
  · intro t v ht hno
    have hne : o.dst ≠ some t := by
      intro q
      have := hno i o ho q
      rw [set_lis hni, if_pos rfl] at this; simp at this
    rw [hget t hne]
    obtain ⟨q1, q2⟩ := h4 t v ht (fun j p hj hd => by
      have := hno j p hj hd
      rw [set_lis hni] at this
      split at this
      · simp at this
      · exact this)
    exact ⟨q1, q2.mono hF2⟩
  · intro j p t hj hd hlj
    by_cases e : i = j
    · subst e
      rw [ho] at hj; simp at hj; subst hj
      rw [hd] at hdst ⊢
      simp at hdst
      refine ⟨hdst, ?_⟩
      have : t < a.tmps.size := by rw [htm]; exact hdst
      simpa [Act.put, Array.getD, this] using hr
    · rw [set_lis hni, if_neg e] at hlj
      have hne : o.dst ≠ some t := by
        intro q
        exact e (hfl.once j p i o t hj ho hd q)
      rw [hget t hne, hpv j hlj]
      obtain ⟨q1, q2⟩ := h5 j p t hj hd hlj
      exact ⟨q1, q2.mono hF2⟩
theorem region_flowE {ro : Option Nat} {ds : List Deferred} {B : Nat} {F : EH} {Mf : Mem} {w0 : World} {Q : Exit → Act → World → Prop} (hfl : FlowE n l ord ws anc)
    (hend : ∀ a w pr pv M L, AtE P n B F Mf w0 ds l ord ws anc QQ al (Array.replicate l.length true) a w pr [] pv M L → Q .normal a w) :
    ∀ (fuel : Nat) (lis : Array Bool) (a : Act) (w : World) (pr rest : List Nat) (pv : Nat → AV) (M : Mem) (L : List (Nat × Nat)), ((List.range l.length).filter (fun j => !(lis[j]? == some true))).length ≤ fuel → AtE P n B F Mf w0 ds l ord ws anc QQ al lis a w pr rest pv M L → wpAnyIn (RF ro) 0 P .any l.toArray Q fuel lis a w := by
  have alltrue : ∀ (lis : Array Bool) (a : Act) (w : World) (pr rest : List Nat) (pv : Nat → AV) (M : Mem) (L : List (Nat × Nat)), AtE P n B F Mf w0 ds l ord ws anc QQ al lis a w pr rest pv M L → Region.ready .any l.toArray lis = [] → Q .normal a w := by
    intro lis a w pr rest pv M L h hrd
    have hall : ∀ i, i < l.length → lis[i]? = some true := by
      intro i
      induction i using Nat.strongRecOn with
      | _ i ih =>
        intro hil
        rcases lis_ft (lis := lis) (j := i) (by rw [h.size]; exact hil) with q | q
        · exact q
        · exfalso
          have : i ∈ Region.ready .any l.toArray lis := (ready_iff h.size).2 ⟨l[i], List.getElem?_eq_getElem hil, q, fun j hj => by
            have := hfl.back i l[i] (List.getElem?_eq_getElem hil) j hj
            exact ih j this (by omega)⟩
          rw [hrd] at this; simp at this
    have e : lis = Array.replicate l.length true := by
      apply Array.ext (by simpa using h.size)
      intro i h1 h2
      have := hall i (by rw [← h.size]; exact h1)
      rw [Array.getElem?_eq_getElem h1] at this
      simpa using this
    have hre : rest = [] := by
      rcases h.next with q | ⟨j, r, q, _⟩
      · exact q
      · exfalso
        have hj : j ∈ ord := by rw [h.ord, q]; simp
        have hjp := h.done j (hall j (hfl.lt j hj))
        have := hfl.nodup
        rw [h.ord, q, List.nodup_append] at this
        exact this.2.2 j hjp j (by simp) rfl
    subst hre
    rw [e] at h
    exact hend a w pr pv M L h
  intro fuel
  induction fuel with
  | zero =>
    intro lis a w pr rest pv M L hf h
    have hr : Region.ready .any l.toArray lis = [] := by
      cases hr : Region.ready .any l.toArray lis with
      | nil => rfl
      | cons i r =>
        exfalso
        obtain ⟨o, ho, h1, _⟩ := (ready_iff h.size).1 (by rw [hr]; simp : i ∈ Region.ready .any l.toArray lis)
        have hil : i < l.length := by
          rcases Nat.lt_or_ge i l.length with q | q
          · exact q
          · rw [List.getElem?_eq_none q] at ho; simp at ho
        have : i ∈ (List.range l.length).filter (fun j => !(lis[j]? == some true)) := List.mem_filter.2 ⟨by simpa using hil, by simp [h1]⟩
        have := List.length_pos_of_mem this
        omega
    exact ⟨hr, alltrue lis a w pr rest pv M L h hr⟩
  | succ fuel ih =>
    intro lis a w pr rest pv M L hf h
    refine ⟨alltrue lis a w pr rest pv M L h, fun i hi => ?_⟩
    obtain ⟨o, ho, hni, hrd⟩ := (ready_iff h.size).1 hi
    have hil : i < l.length := by
      rcases Nat.lt_or_ge i l.length with q | q
      · exact q
      · rw [List.getElem?_eq_none q] at ho; simp at ho
    have hcount : ((List.range l.length).filter (fun j => !((lis.setIfInBounds i true)[j]? == some true))).length ≤ fuel := by
      have h1 := count_set l.length (fun j => lis[j]? == some true) i hil (by simp [hni])
      have h2 : (List.range l.length).filter (fun j => !((lis.setIfInBounds i true)[j]? == some true)) = (List.range l.length).filter (fun j => !((lis[j]? == some true) || j == i)) := by
        apply List.filter_congr
        intro j hj
        rw [set_lis hni]
        by_cases e : i = j
        · subst e
          rw [if_pos rfl]; simp
        · rw [if_neg e]
          have : (j == i) = false := by simp; omega
          simp [this]
      rw [h2]
      omega
    have hanc := closed_anc hfl h.closed i o ho hrd
    obtain ⟨F0, m1, m2, m3, m4, m5⟩ := h.mem
    have hclosed : ∀ (k : Nat) (o' : Oper), l[k]? = some o' → (lis.setIfInBounds i true)[k]? = some true → ∀ j ∈ bindsOn o', (lis.setIfInBounds i true)[j]? = some true := by
      intro k p hk hlk j hj
      rw [set_lis hni] at hlk ⊢
      by_cases e : i = k
      · subst e
        rw [ho] at hk; simp at hk; subst hk
        rw [hrd j hj]; split <;> rfl
      · rw [if_neg e] at hlk
        rw [h.closed k p hk hlk j hj]; split <;> rfl
    have hone : ∀ k : Nat, (lis.setIfInBounds i true)[k]? = some false → lis[k]? = some false := by
      intro k hk
      rw [set_lis hni] at hk
      split at hk
      · simp at hk
      · exact hk
    have hio : i ∈ ord := hfl.mem i hil
    by_cases hiw : i ∈ ws
    · -- an operation that writes: it is the next
      have hrest : ∃ rest', rest = i :: rest' := by
        rcases h.next with q | ⟨j, r, q, hjw⟩
        · exfalso
          subst q
          have : i ∈ pr := by have := h.ord; simp at this; rw [← this]; exact hio
          have := h.wild i this hiw
          rw [hni] at this; simp at this
        · by_cases e : j = i
          · subst e; exact ⟨r, q⟩
          · exfalso
            have hjl : j < l.length := hfl.lt j (by rw [h.ord, q]; simp)
            have hsp : ord = pr ++ j :: r := by rw [h.ord, q]
            have hir : i ∈ r := by
              have := hio
              rw [hsp] at this
              rcases List.mem_append.1 this with k | k
              · have := h.wild i k hiw
                rw [hni] at this; simp at this
              · rcases List.mem_cons.1 k with k | k
                · exact absurd k.symm e
                · exact k
            have hb := (befo_split hfl.nodup hsp (k := i)).2 hir
            rcases hfl.wild j hjw i hil with k | k | k
            · exact e k.symm
            · rw [hb] at k; simp at k
            · have := hanc j k
              have := h.done j this
              have hnd := hfl.nodup
              rw [hsp, List.nodup_append] at hnd
              exact hnd.2.2 j this j (by simp) rfl
      obtain ⟨rest', rfl⟩ := hrest
      obtain ⟨o', ho', he⟩ := h.eops
      rw [ho] at ho'; simp at ho'; subst ho'
      rw [if_pos (by simpa using hiw)] at he
      obtain ⟨hg, he⟩ := he
      have hsp : ord = pr ++ i :: rest' := h.ord
      have hsees := h.sees hfl m4 m5 ho hni hrd hsp
      have hslots : Slots n F0 ((putsI l pv pr al).only (Oper.tmps o)) a.tmps := by
        refine ⟨h.tmps, fun t v' e => ?_⟩
        rw [only_lookup] at e
        split at e
        · rename_i hc
          exact hsees t (by unfold Oper.sees; exact List.mem_append_left _ (by simpa using hc)) v' e
        · simp at e
      have hip : i ∉ pr := by
        intro hh
        have := hfl.nodup
        rw [hsp, List.nodup_append] at this
        exact this.2.2 i hh i (by simp) rfl
      have fin : ∀ (u : Value) (v : AV) (F2 : EH) (w' : World) (M2 : Mem), Rel F2 v u → Ext F0 F2 → Inv B F2 (M2 ++ Mf) w' → Below B w w' → ∀ L' : List (Nat × Nat), EOps P l ws anc QQ rest' ((putsI l pv pr al).put o.dst v) M2 L' → (∀ x ∈ L', x.2 < M2.length) →
          (∀ i' fp, lis[i']? = some false → (∀ p, fp = some p → (i', p) ∈ L) → (fpm M2 fp = fpm M fp ∧ ∀ p, fp = some p → (i', p) ∈ L') ∨ i' ∈ anc.getD i []) →
          wpAnyIn (RF ro) 0 P .any l.toArray Q fuel (lis.setIfInBounds i true) (a.put o.dst u) w' := by
        intro u v F2 w' M2 hr hF2 hi2 hb2 L' heo hml hkeep
        let pv' : Nat → AV := fun x => if x = i then v else pv x
        have hpv : ∀ k ∈ pr, pv' k = pv k := fun k hk => if_neg (fun e => hip (by rw [← e]; exact hk))
        have hpi : pv' i = v := if_pos rfl
        have heq : putsI l pv' pr al = putsI l pv pr al := putsI_congr l pv' pv pr al hpv
        obtain ⟨pr2, rest2, pv2, L2, q1, q2, q3, q0, q4, q5, q6, q7⟩ := advance (P := P) (QQ := QQ) (al := al) (anc := anc) hfl.nodup M2 (lis.setIfInBounds i true) rest' (pr ++ [i]) pv' L' (by rw [hsp]; simp) (by
          rw [putsI_app, heq]
          simp only [putsI, ho, Option.bind_some, hpi]
          exact heo) hml (by
          intro p1 j p2 hspj hj hl
          have hl' := hone j hl
          rcases List.eq_nil_or_concat p2 with rfl | ⟨p2', y, rfl⟩
          · have e2 : pr = p1 ∧ i = j := by
              have := List.append_inj' hspj rfl
              exact ⟨this.1, by simpa using this.2⟩
            obtain ⟨rfl, rfl⟩ := e2
            exact absurd hiw hj
          · have e3 : pr = p1 ++ j :: p2' := by
              rw [List.concat_eq_append, show p1 ++ j :: (p2' ++ [y]) = (p1 ++ j :: p2') ++ [y] from by simp] at hspj
              exact (List.append_inj' hspj rfl).1
            obtain ⟨oj, fp, k1, k2, k3⟩ := h.steps p1 j p2' e3 hj hl'
            rcases hkeep j fp hl' k2 with r | r
            · refine ⟨oj, fp, k1, r.2, ?_⟩
              rw [putsI_congr l pv' pv p1 al (fun k hk => hpv k (by rw [e3]; simp [hk])), hpv j (by rw [e3]; simp)]
              rw [r.1]; exact k3
            · have := hanc j r
              rw [hl'] at this; simp at this)
        have hpvl : ∀ k, lis[k]? = some true → pv2 k = pv k := fun k hk => by
          have := h.done k hk
          rw [q6 k (by simp [this]), hpv k this]
        have hpv2i : pv2 i = v := by rw [q6 i (by simp), hpi]
        obtain ⟨s1, s2⟩ := slots_next (al := al) hfl ho hni h.tmps hF2 (pv := pv) (pv' := pv2) (by rw [hpv2i]; exact hr) hpvl m4 m5
        refine ih _ _ _ pr2 rest2 pv2 M2 L2 hcount ⟨by simpa using h.size, hclosed, by cases o.dst <;> exact h.defers, by cases o.dst <;> simp [Act.put, h.tmps], q1, fun k hk => ?_, fun k hk hkw => ?_, q2, q3, q0, q7, F2, m1.trans hF2, hi2, m3.trans hb2, s1, s2⟩
        · rw [set_lis hni] at hk
          split at hk
          · rename_i e; subst e; exact q4 _ (by simp)
          · exact q4 k (by simp [h.done k hk])
        · rw [set_lis hni]
          have := q5 k hk hkw
          rcases List.mem_append.1 this with r | r
          · rw [h.wild k r hkw]; split <;> rfl
          · simp at r; rw [if_pos r.symm]
      unfold wpOpIn
      simp only [List.getElem?_toArray, ho]
      rw [if_pos (by simp [Region.wanted, hg])]
      rcases he with ⟨k, r, hk, hL, hop⟩ | hop | ⟨hL, hop⟩
      · have hperm : (M ++ Mf).Perm ([r] ++ (M.eraseIdx k ++ Mf)) := by
          have := (perm_at hk).append_right Mf
          simpa using this
        have hkl : k < M.length := by
          rcases Nat.lt_or_ge k M.length with q | q
          · exact q
          · rw [List.getElem?_eq_none q] at hk; simp at hk
        refine wp_exits (Oper.wpIn_mono ?_ (hop n B F0 (M.eraseIdx k ++ Mf) a w (m2.perm hperm) hslots ro))
        rintro a' w' ⟨u, v, M', F2, rfl, ⟨r', rfl, heo⟩, hr, hF2, hi2, hb2⟩
        refine fin u v F2 w' (M.set k r') hr hF2 (hi2.perm ?_) hb2 L heo (by simpa using h.lenL) (fun i' fp hl' hfp => ?_)
        · have := ((perm_set r' hkl).append_right Mf).symm
          simpa using this
        · cases fp with
          | none => exact Or.inl ⟨rfl, hfp⟩
          | some p =>
            by_cases e : p = k
            · right
              have := List.all_eq_true.1 hL (i', p) (hfp p rfl)
              simpa [e] using this
            · left
              refine ⟨?_, hfp⟩
              simp only [fpm]
              rw [List.getElem?_set_ne (fun q => e q.symm)]
      · refine wp_exits (Oper.wpIn_mono ?_ (hop n B F0 (M ++ Mf) a w (by simpa using m2) hslots ro))
        rintro a' w' ⟨u, v, M', F2, rfl, heo, hr, hF2, hi2, hb2⟩
        refine fin u v F2 w' (M ++ M') hr hF2 (hi2.perm ?_) hb2 L heo (fun x hx => by have := h.lenL x hx; simp; omega) (fun i' fp hl' hfp => ?_)
        · rw [List.append_assoc]
          exact (List.perm_append_comm_assoc _ _ _)
        · left
          refine ⟨?_, hfp⟩
          cases fp with
          | none => rfl
          | some p =>
            simp only [fpm]
            rw [List.getElem?_append_left (h.lenL (i', p) (hfp p rfl))]
      · refine wp_exits (Oper.wpIn_mono ?_ (hop n B F0 Mf a w m2 hslots ro))
        rintro a' w' ⟨u, v, M', F2, rfl, heo, hr, hF2, hi2, hb2⟩
        refine fin u v F2 w' M' hr hF2 hi2 hb2 [] heo (by simp) (fun i' fp hl' hfp => ?_)
        cases fp with
        | none => exact Or.inl ⟨rfl, by simp⟩
        | some p =>
          right
          have := List.all_eq_true.1 hL (i', p) (hfp p rfl)
          simpa using this
    · -- an operation that does not write: it has been gone through
      have hipr : i ∈ pr := by
        have := hio
        rw [h.ord] at this
        rcases List.mem_append.1 this with k | k
        · exact k
        · exfalso
          rcases h.next with q | ⟨j, r, q, hjw⟩
          · rw [q] at k; simp at k
          · have hsp : ord = pr ++ j :: r := by rw [h.ord, q]
            rw [q] at k
            rcases List.mem_cons.1 k with e | e
            · subst e; exact hiw hjw
            · have hb := (befo_split hfl.nodup hsp (k := i)).2 e
              rcases hfl.wild j hjw i hil with k | k | k
              · subst k; exact hiw hjw
              · rw [hb] at k; simp at k
              · have := h.done j (hanc j k)
                have hnd := hfl.nodup
                rw [hsp, List.nodup_append] at hnd
                exact hnd.2.2 j this j (by simp) rfl
      obtain ⟨p1, p2, hp⟩ := List.append_of_mem hipr
      obtain ⟨o', fp, ho', hfp, hst⟩ := h.steps p1 i p2 hp hiw hni
      rw [ho] at ho'; simp at ho'; subst ho'
      have hsp : ord = p1 ++ i :: (p2 ++ rest) := by rw [h.ord, hp]; simp
      have hsees := h.sees hfl m4 m5 ho hni hrd hsp
      have hslots : Slots n F0 ((putsI l pv p1 al).only (Oper.tmps o)) a.tmps := by
        refine ⟨h.tmps, fun t v' e => ?_⟩
        rw [only_lookup] at e
        split at e
        · rename_i hc
          exact hsees t (by unfold Oper.sees; exact List.mem_append_left _ (by simpa using hc)) v' e
        · simp at e
      have hperm : ∃ Mr, (M ++ Mf).Perm (fpm M fp ++ (Mr ++ Mf)) ∧ M.Perm (fpm M fp ++ Mr) := by
        cases fp with
        | none => exact ⟨M, by simp [fpm], by simp [fpm]⟩
        | some k =>
          cases hk : M[k]? with
          | none => exact ⟨M, by simp [fpm, hk], by simp [fpm, hk]⟩
          | some r =>
            have := perm_at hk
            refine ⟨M.eraseIdx k, ?_, by simpa [fpm, hk] using this⟩
            have := this.append_right Mf
            simpa [fpm, hk] using this
      obtain ⟨Mr, hp1, hp2⟩ := hperm
      have next : ∀ (u : Value) (F2 : EH) (w' : World), Rel F2 (pv i) u → Ext F0 F2 → Inv B F2 (M ++ Mf) w' → Below B w w' → wpAnyIn (RF ro) 0 P .any l.toArray Q fuel (lis.setIfInBounds i true) (a.put o.dst u) w' := by
        intro u F2 w' hr hF2 hi2 hb2
        obtain ⟨s1, s2⟩ := slots_next (al := al) hfl ho hni h.tmps hF2 (pv := pv) (pv' := pv) hr (fun _ _ => rfl) m4 m5
        refine ih _ _ _ pr rest pv M L hcount ⟨by simpa using h.size, hclosed, by cases o.dst <;> exact h.defers, by cases o.dst <;> simp [Act.put, h.tmps], h.ord, fun k hk => ?_, fun k hk hkw => ?_, h.next, h.eops, h.lenL, fun q1 j q2 hq hj hl => h.steps q1 j q2 hq hj (hone j hl), F2, m1.trans hF2, hi2, m3.trans hb2, s1, s2⟩
        · rw [set_lis hni] at hk
          split at hk
          · rename_i e; subst e; exact hipr
          · exact h.done k hk
        · rw [set_lis hni, h.wild k hk hkw]; split <;> rfl
      have done : ∀ (o' : Oper), o'.dst = o.dst → OpT P o' ((putsI l pv p1 al).only (Oper.tmps o)) (fpm M fp) (fun v' M' => v' = pv i ∧ M' = fpm M fp) → o'.wpIn (RF ro) 0 P a w (wpAnyIn (RF ro) 0 P .any l.toArray Q fuel (lis.setIfInBounds i true)) Q := by
        intro o' hd' hop
        refine wp_exits (Oper.wpIn_mono ?_ (hop n B F0 (Mr ++ Mf) a w (m2.perm hp1) hslots ro))
        rintro a' w' ⟨u, v', M', F2, rfl, ⟨rfl, rfl⟩, hr, hF2, hi2, hb2⟩
        rw [hd']
        exact next u F2 w' hr hF2 (hi2.perm hp1.symm) hb2
      have skip : pv i = .val undef → wpAnyIn (RF ro) 0 P .any l.toArray Q fuel (lis.setIfInBounds i true) (a.put o.dst undef) w := by
        intro e
        exact next undef F0 w (by rw [e]; exact .val _) (Ext.refl _) m2 (Below.refl _ _)
      unfold wpOpIn
      simp only [List.getElem?_toArray, ho]
      unfold DStep at hst
      cases hg : o.guard with
      | none =>
        rw [hg] at hst
        rw [if_pos (by simp [Region.wanted, hg])]
        exact done o rfl hst
      | some gb =>
        obtain ⟨g, b⟩ := gb
        rw [hg] at hst
        obtain ⟨t, ht, hst⟩ := hst
        have htin : t ∈ Oper.sees l o := by
          unfold Oper.sees
          rw [hg]
          exact List.mem_append_right _ (by simp [ht])
        have slot : ∀ x, (putsI l pv p1 al).lookup t = some (.val x) → a.tmps[t]? = some x := by
          intro x hx
          obtain ⟨q1, q2⟩ := hsees t htin _ hx
          have h4 : t < a.tmps.size := by rw [h.tmps]; exact q1
          generalize hy : a.tmps.getD t undef = y at q2
          cases q2
          rw [Array.getElem?_eq_getElem h4]
          simpa [Array.getD, h4] using hy
        have want : ∀ x, a.tmps[t]? = some x → Region.wanted o (yielded l.toArray a.tmps) = ((match some x with | some (.bool b) => some b | _ => none) == some b) := by
          intro x hx
          simp only [Region.wanted, hg, yielded, List.getElem?_toArray, ht, Option.bind_some, hx]
          cases x <;> rfl
        rcases hst with ⟨h1, h2⟩ | ⟨h1, h2⟩
        · rw [if_pos (by rw [want _ (slot _ h1)]; simp)]
          exact done { o with guard := none } rfl h2
        · rcases h1 with h1 | h1
          · rw [if_neg (by rw [want _ (slot _ h1)]; cases b <;> simp)]
            exact ⟨fun _ _ => trivial, skip h2⟩
          · rw [if_neg (by rw [want _ (slot _ h1)]; simp [undef])]
            exact ⟨fun _ _ => trivial, skip h2⟩
/-- a region whose order is drawn, and that writes -/
theorem ACode.drawnE {ro : Option Nat} {Q : Exit → Sl → Mem → Prop} {id : Nat} {M : Mem} (ord ws : List Nat) (anc : List (List Nat)) (hmix : P.follows .mixedOrders = true) (hfl : flowE n l ord ws anc = true) (h : EOps P l ws anc (Q .normal) ord al M []) : ACode ro P n (.region id l.toArray true) Q al M := by
  intro B F Mf a w hi hs
  have hF := FlowE.of hfl
  obtain ⟨pr, rest, pv, L, q1, q2, q3, q0, _, q5, _, q7⟩ := advance (P := P) (QQ := Q .normal) (al := al) (anc := anc) (l := l) (ws := ws) hF.nodup M (Array.replicate l.length false) ord [] (fun _ => .val undef) [] rfl h (by simp) (by intro p1 i p2 e; simp at e)
  refine wpIn_region_any hmix (region_flowE (ds := a.defers) (P := P) (QQ := Q .normal) (al := al) (B := B) (F := F) (Mf := Mf) (w0 := w) hF ?_ _ _ _ _ pr rest pv M L ?_ ?_)
  · intro a' w' pr pv M L hat
    obtain ⟨F', m1, m2, m3, m4, m5⟩ := hat.mem
    have he := hat.eops
    refine ⟨[], F', _, M, he, m1, m2, ⟨hat.tmps, fun t v e => ?_⟩, hat.defers, m3⟩
    have hall : ∀ j, j < l.length → (Array.replicate l.length true)[j]? = some true := fun j hj => by simp [hj]
    rcases putsI_lookup l pv pr al t with ⟨j, o, k0, k1, k3, k4⟩ | ⟨k1, k2⟩
    · rw [k4] at e
      simp at e; subst e
      have : j < l.length := by
        rcases Nat.lt_or_ge j l.length with q | q
        · exact q
        · rw [List.getElem?_eq_none q] at k1; simp at k1
      exact m5 j o t k1 k3 (hall j this)
    · rw [k2] at e
      refine m4 t v e (fun j o hj hdj => ?_)
      have : j < l.length := by
        rcases Nat.lt_or_ge j l.length with q | q
        · exact q
        · rw [List.getElem?_eq_none q] at hj; simp at hj
      exact absurd hdj (k1 j o (hat.done j (hall j this)) hj)
  · have := List.length_filter_le (fun j => !((Array.replicate l.length false)[j]? == some true)) (List.range l.length)
    simpa using this
  · have hno : ∀ k : Nat, (Array.replicate l.length false)[k]? ≠ some true := by
      intro k hk
      rw [Array.getElem?_replicate] at hk; split at hk <;> simp at hk
    refine ⟨by simp, fun k o hk hlk => absurd hlk (hno k), rfl, hs.1, q1, fun k hk => absurd hk (hno k), fun k hk hkw => ?_, q2, q3, q0, q7, F, Ext.refl F, hi.drew, (Below.refl _ _).drew, fun t v e _ => hs.2 t v e, fun j o t hj _ hlj => absurd hlj (hno j)⟩
    have := q5 k hk hkw
    simp at this
theorem c_drawnE {ro : Option Nat} {ks : List Kont} {Q : Exit → Sl → Mem → Prop} {id : Nat} {M : Mem} (ord ws : List Nat) (anc : List (List Nat)) (hmix : P.follows .mixedOrders = true) (hfl : flowE n l ord ws anc = true) (h : EOps P l ws anc (AGo ro P n ks Q) ord al M []) : ACode ro P n (.region id l.toArray true) (after ro P n ks Q) al M := ACode.drawnE ord ws anc hmix hfl h
variable {M : Mem} {L : List (Nat × Nat)} {o : Oper}
theorem OpT.mono {al : Sl} {M : Mem} {K K' : AV → Mem → Prop} (h : OpT P o al M K) (hk : ∀ v M', K v M' → K' v M') : OpT P o al M K' := by
  intro n B F Mf a w hi hs ro
  refine Oper.wpIn_mono ?_ (h n B F Mf a w hi hs ro)
  rintro a' w' ⟨u, v, M', F', h1, h2, h3⟩
  exact ⟨u, v, M', F', h1, hk _ _ h2, h3⟩
theorem EOps.d {v : AV} {i : Nat} (d : Nat) (fp : Option Nat) (hi : l[i]? = some o) (hw : ws.contains i = false) (hg : o.guard = none) (hd : o.dst = some d) (hfp : fp.all (fun k => Nat.blt k M.length) = true) (h : OpT P o (al.only (Oper.tmps o)) (fpm M fp) (fun v' M' => v' = v ∧ M' = fpm M fp)) (q : EOps P l ws anc QQ ord ((d, v) :: al) M ((fp.toList.map fun k => (i, k)) ++ L)) : EOps P l ws anc QQ (i :: ord) al M L :=
  ⟨o, hi, by rw [if_neg (by rw [hw]; simp)]; exact ⟨fp, v, hfp, by unfold DStep; rw [hg]; exact h, by rw [hd]; exact q⟩⟩
theorem EOps.cm {i : Nat} {p : Prop} (d : Nat) (hi : l[i]? = some o) (hw : ws.contains i = false) (hg : o.guard = none) (hd : o.dst = some d) (h : ∀ K : AV → Mem → Prop, (∀ c : Bool, (c = true ↔ p) → K (.val (.bool c)) []) → OpT P o (al.only (Oper.tmps o)) [] K) (q : ∀ c : Bool, (c = true ↔ p) → EOps P l ws anc QQ ord ((d, .val (.bool c)) :: al) M L) : EOps P l ws anc QQ (i :: ord) al M L := by
  have : ∃ c : Bool, c = true ↔ p := by
    by_cases hp : p
    · exact ⟨true, by simp [hp]⟩
    · exact ⟨false, by simp [hp]⟩
  obtain ⟨c, hc⟩ := this
  refine EOps.d d none hi hw hg hd rfl (h _ (fun c' hc' => ⟨?_, rfl⟩)) (q c hc)
  have : c' = c := by cases c <;> cases c' <;> simp_all
  rw [this]
theorem EOps.w {i : Nat} {r : Res} (k : Nat) (hi : l[i]? = some o) (hw : ws.contains i = true) (hg : o.guard = none) (hr : M[k]? = some r) (hL : (L.all fun x => x.2 != k || (anc.getD i []).contains x.1) = true) (h : OpT P o (al.only (Oper.tmps o)) [r] (fun v M' => ∃ r', M' = [r'] ∧ EOps P l ws anc QQ ord (al.put o.dst v) (M.set k r') L)) : EOps P l ws anc QQ (i :: ord) al M L :=
  ⟨o, hi, by rw [if_pos hw]; exact ⟨hg, .inl ⟨k, r, hr, hL, h⟩⟩⟩
theorem EOps.nw {i : Nat} (hi : l[i]? = some o) (hw : ws.contains i = true) (hg : o.guard = none) (h : OpT P o (al.only (Oper.tmps o)) [] (fun v M' => ∃ r', M' = [r'] ∧ EOps P l ws anc QQ ord (al.put o.dst v) (M ++ [r']) L)) : EOps P l ws anc QQ (i :: ord) al M L :=
  ⟨o, hi, by rw [if_pos hw]; exact ⟨hg, .inr (.inl (OpT.mono h (by rintro v M' ⟨r', rfl, h⟩; exact h)))⟩⟩
/-- an operation that makes new pieces -/
theorem EOps.nws {i : Nat} (hi : l[i]? = some o) (hw : ws.contains i = true) (hg : o.guard = none) (h : OpT P o (al.only (Oper.tmps o)) [] (fun v M' => EOps P l ws anc QQ ord (al.put o.dst v) (M ++ M') L)) : EOps P l ws anc QQ (i :: ord) al M L :=
  ⟨o, hi, by rw [if_pos hw]; exact ⟨hg, .inr (.inl h)⟩⟩
/-- an operation that may write all -/
theorem EOps.wh {i : Nat} (hi : l[i]? = some o) (hw : ws.contains i = true) (hg : o.guard = none) (hL : (L.all fun x => (anc.getD i []).contains x.1) = true) (h : OpT P o (al.only (Oper.tmps o)) M (fun v M' => EOps P l ws anc QQ ord (al.put o.dst v) M' [])) : EOps P l ws anc QQ (i :: ord) al M L :=
  ⟨o, hi, by rw [if_pos hw]; exact ⟨hg, .inr (.inr ⟨hL, h⟩)⟩⟩
end
end Go.Proofs.Ytecpnlhjjmcllaa
namespace Go.Proofs.Ytecpnlhjjmcllaa
open Go.RowKit
section
variable {P : Program} {n : Nat} {al : Sl} {M : Mem} {o : Oper} {K : AV → Mem → Prop}
theorem ACall.swap {f : FuncId} {vs : List AV} {M1 M2 : Mem} {R : AV → Mem → Prop} (h : ACall P f vs M1 R) : ACall P f vs (M2 ++ M1) (fun v M' => ∃ M0, M' = M2 ++ M0 ∧ R v M0) :=
  ⟨h.ent, fun B F Mf w us hi hv => by
    have e : (M2 ++ M1 ++ Mf).Perm (M1 ++ (M2 ++ Mf)) := by rw [List.append_assoc]; exact List.perm_append_comm_assoc _ _ _
    refine (h.run B F (M2 ++ Mf) w us (hi.perm e) hv).mono fun _ _ ⟨u, v, M', F', h1, h2, h3, h4, h5, h6⟩ => ⟨u, v, M2 ++ M', F', h1, ⟨M', rfl, h2⟩, h3, h4, h5.perm ?_, h6⟩
    rw [List.append_assoc]; exact List.perm_append_comm_assoc _ _ _⟩
/-- a call that takes the last part of the memory along -/
theorem op_callm {f : FuncId} {xs : List Operand} {ts : Array TypeId} {vs vs' : List AV} (M2 : Mem) {M1 : Mem} {R : AV → Mem → Prop} (ho : o.op = .call { callee := .value (.func f), args := xs.toArray, argTypes := ts }) (hx : xs.mapM al.ev = some vs) (hM : M = M2 ++ M1) (hc : ACall P f vs' M1 R) (hl : Les vs vs') (q : ∀ v M', R v M' → K v (M2 ++ M')) : OpT P o al M K := by
  subst hM
  exact op_call ho hx (ACall.swap (M2 := M2) (ACall.args hl hc)) (by rintro v M' ⟨M0, rfl, h⟩; exact q v M0 h)
theorem op_callvm {x : Operand} {f : FuncId} {fs cs : List AV} {xs : List Operand} {ts : Array TypeId} {vs vs' : List AV} (M2 : Mem) {M1 : Mem} {R : AV → Mem → Prop} (ho : o.op = .call { callee := .value x, args := xs.toArray, argTypes := ts }) (hf : al.ev x = some (.clo (.func f) fs cs)) (hx : xs.mapM al.ev = some vs) (hM : M = M2 ++ M1) (hc : ACall P f vs' M1 R) (hl : Les (fs ++ vs ++ cs) vs') (q : ∀ v M', R v M' → K v (M2 ++ M')) : OpT P o al M K := by
  subst hM
  exact op_callv ho hf hx (ACall.swap (M2 := M2) (ACall.args hl hc)) (by rintro v M' ⟨M0, rfl, h⟩; exact q v M0 h)
/-- a closure's call that needs no memory -/
theorem op_callvp {x : Operand} {f : FuncId} {fs cs : List AV} {xs : List Operand} {ts : Array TypeId} {vs vs' : List AV} {R : AV → Mem → Prop} (ho : o.op = .call { callee := .value x, args := xs.toArray, argTypes := ts }) (hf : al.ev x = some (.clo (.func f) fs cs)) (hx : xs.mapM al.ev = some vs) (hc : ACall P f vs' [] R) (hl : Les (fs ++ vs ++ cs) vs') (q : ∀ v M', R v M' → K v (M ++ M')) : OpT P o al M K :=
  op_callvm M ho hf hx (by simp) hc hl q
/-- other words for the memory -/
def MImp (M M' : Mem) : Prop := ∀ (B : Nat) (F : EH) (Mf : Mem) (w : World), Inv B F (M ++ Mf) w → Inv B F (M' ++ Mf) w
theorem MImp.refl (M : Mem) : MImp M M := fun _ _ _ _ h => h
theorem MImp.trans {M1 M2 M3 : Mem} (h : MImp M1 M2) (k : MImp M2 M3) : MImp M1 M3 := fun B F Mf w x => k B F Mf w (h B F Mf w x)
theorem MImp.perm {M1 M2 : Mem} (h : M1.Perm M2) : MImp M1 M2 := fun _ _ Mf _ x => x.perm (h.append_right Mf)
theorem MImp.le {M1 M2 : Mem} (h : MLe M1 M2) : MImp M1 M2 := fun _ _ _ _ x => x.le h
theorem MImp.swap (a b : Res) (M : Mem) : MImp (a :: b :: M) (b :: a :: M) := MImp.perm (List.Perm.swap b a M)
theorem MImp.cons (a : Res) {M1 M2 : Mem} (h : MImp M1 M2) : MImp (a :: M1) (a :: M2) := fun B F Mf w x => by
  have e1 : (a :: M1 ++ Mf).Perm (M1 ++ (a :: Mf)) := by simpa using (List.perm_middle (l₁ := M1) (l₂ := Mf) (a := a)).symm
  have e2 : (M2 ++ (a :: Mf)).Perm (a :: M2 ++ Mf) := by simp
  exact (h B F (a :: Mf) w (x.perm e1)).perm e2
/-- a variable that holds nil holds a slice of the call's own -/
theorem MImp.ownNil (b : Nat) (e : TypeId) (m : Nat) (M : Mem) : MImp (.loc b [.val (.slice none 0 0)] :: M) (.loc b [.own (.slice none 0 0) m []] :: .own e m (.slice none 0 0) :: M) := fun B F Mf w x => by
  refine MImp.swap _ _ _ B F Mf w ?_
  have h := x.ownNil e m
  refine ⟨h.base, h.fix, fun r hr => ?_, ?_⟩
  · simp only [List.cons_append, List.mem_cons] at hr
    rcases hr with rfl | rfl | hr
    · exact h.ok _ (by simp)
    · obtain ⟨h1, h2, vs, T, h3, h4, h5⟩ := h.ok (.loc b [.val (.slice none 0 0)]) (by simp)
      refine ⟨h1, h2, vs, T, h3, ?_, h5⟩
      cases h4 with
      | cons k ks =>
        cases ks
        cases k
        exact .cons (.own _ (.seq0 m none 0 (fun _ => rfl))) .nil
    · exact h.ok r (by simp [hr])
  · have := h.far
    rw [far_map] at this ⊢
    simpa [Res.blk] using this
theorem c_mem {ro : Option Nat} {ks : List Kont} {Q : Exit → Sl → Mem → Prop} {c : Code} {M' : Mem} (hm : MImp M M') (h : ACode ro P n c (after ro P n ks Q) al M') : ACode ro P n c (after ro P n ks Q) al M :=
  fun B F Mf a w hi hs => h B F Mf a w (hm B F Mf w hi) hs
theorem setL_flat {m : Nat} : ∀ (es : List (List AV)) (i : Nat) (xs : List AV), (∀ e ∈ es, e.length = m) → xs.length = m → i < es.length → setL es.flatten (i * m) xs = (es.set i xs).flatten
  | [], i, xs, _, _, h => by simp at h
  | e :: es, 0, xs, h, hx, _ => by
    have h1 := h e (by simp)
    have := setL_app xs [] (e ++ es.flatten) (by simp; omega)
    simp only [List.nil_append, List.length_nil] at this
    simp only [List.flatten_cons, List.set_cons_zero, Nat.zero_mul, this]
    rw [List.drop_append]
    simp [h1, hx]
  | e :: es, i + 1, xs, h, hx, hi => by
    have h1 := h e (by simp)
    have ih := setL_flat es i xs (fun x hx => h x (by simp [hx])) hx (by simpa using hi)
    simp only [List.flatten_cons, List.set_cons_succ, ← ih]
    have key : ∀ (xs : List AV) (pre l : List AV) (j : Nat), setL (pre ++ l) (pre.length + j) xs = pre ++ setL l j xs := by
      intro xs
      induction xs with
      | nil => intro pre l j; rfl
      | cons x xs ih2 =>
        intro pre l j
        rw [setL, setL, List.set_append_right _ _ (by omega), show pre.length + j - pre.length = j from by omega, show pre.length + j + 1 = pre.length + (j + 1) from by omega]
        exact ih2 pre _ (j + 1)
    have := key xs e es.flatten (i * m)
    rw [h1] at this
    rw [← this]
    congr 1
    rw [Nat.add_mul]; omega
theorem op_store_row {x y : Operand} {t : TypeId} {m b i k : Nat} {v : AV} {es : List (List AV)} (ho : o.op = .store t x y) (ht : (P.info? t).map (·.size) = some m) (hx : al.ev x = some (.ptr b (0 + i * m))) (hy : al.ev y = some v) (hf : v.flat = true) (hs : v.cells.length = m) (hm : M[k]? = some (.loc b es.flatten)) (hw : ∀ e ∈ es, e.length = m) (hi : i < es.length) (q : K (.val undef) (M.set k (.loc b (es.set i v.cells).flatten))) : OpT P o al M K := by
  rw [Nat.zero_add] at hx
  refine op_store ho ht hx hy hf hs hm ?_ (setL_flat es i v.cells hw hs hi) q
  rw [flat_len hw]
  have : (i + 1) * m ≤ es.length * m := Nat.mul_le_mul_right m hi
  rw [Nat.add_mul] at this
  omega
/-- boxes and new variables, their cells written out -/
theorem op_boxe {x : Operand} {t : TypeId} {v : AV} {cs' : List AV} (ho : o.op = .box t x) (hx : al.ev x = some v) (hf : v.flat = true) (hc : v.cells = cs') (q : ∀ b, K (.ptr b 0) (.loc b cs' :: M)) : OpT P o al M K := by
  subst hc; exact op_box ho hx hf q
theorem op_alloce {t : TypeId} {z : Value} {cs' : List AV} (ho : o.op = .alloc t) (hz : tyZero P t = some z) (hf : (AV.val z).flat = true) (hc : (AV.val z).cells = cs') (q : ∀ b, K (.ptr b 0) (.loc b cs' :: M)) : OpT P o al M K := by
  subst hc; exact op_alloc ho hz hf q
/-- the slots behind a freezing -/
def Frz (b n m : Nat) (es : List (List AV)) (al al' : Sl) : Prop := ∀ t v', al'.lookup t = some v' → ∃ v, al.lookup t = some v ∧ (Le v v' ∨ ∃ cap, v = .arr b 0 n cap ∧ v' = .seq m es)
theorem Frz.nil {b n m : Nat} {es : List (List AV)} {al : Sl} : Frz b n m es al [] := fun t v' e => by simp at e
theorem Frz.cons {b n m : Nat} {es : List (List AV)} {al al' : Sl} {t : Nat} {v v' : AV} (hv : al.lookup t = some v) (h : Le v v') (hs : Frz b n m es al al') : Frz b n m es al ((t, v') :: al') := fun s u e => by
  by_cases q : s = t
  · subst q
    simp at e; subst e
    exact ⟨v, hv, .inl h⟩
  · have : (s == t) = false := by simpa using q
    rw [List.lookup, this] at e
    exact hs s u e
theorem Frz.arr {b n m cap : Nat} {es : List (List AV)} {al al' : Sl} {t : Nat} (hv : al.lookup t = some (.arr b 0 n cap)) (hs : Frz b n m es al al') : Frz b n m es al ((t, .seq m es) :: al') := fun s u e => by
  by_cases q : s = t
  · subst q
    simp at e; subst e
    exact ⟨_, hv, .inr ⟨cap, rfl, rfl⟩⟩
  · have : (s == t) = false := by simpa using q
    rw [List.lookup, this] at e
    exact hs s u e
theorem c_freeze {ro : Option Nat} {ks : List Kont} {Q : Exit → Sl → Mem → Prop} {c : Code} {b k m i : Nat} {cs : List AV} {es : List (List AV)} {al' : Sl} (hm : M[i]? = some (.loc b cs)) (hc : cs = es.flatten) (hw : ∀ e ∈ es, e.length = m) (hn : es.length = k) (hmax : k ≤ 9223372036854775807) (hs : Frz b k m es al al') (h : ACode ro P n c (after ro P n ks Q) al' (M.eraseIdx i)) : ACode ro P n c (after ro P n ks Q) al M :=
  ACode.freeze hm hc hw hn (by unfold maxLen; exact hmax) hs h
end
end Go.Proofs.Ytecpnlhjjmcllaa
namespace Go.Proofs.Ytecpnlhjjmcllaa
open Go.RowKit
/-- a box that is never written -/
theorem op_boxc {P : Program} {al : Sl} {M : Mem} {K : AV → Mem → Prop} {o : Oper} {x : Operand} {t : TypeId} {v : AV} (ho : o.op = .box t x) (hx : al.ev x = some v) (hf : v.flat = true) {cs' : List AV} (hc : v.cells = cs') (q : K (.cptr cs') M) : OpT P o al M K := by
  subst hc
  intro n B F Mf a w hi hs ro
  obtain ⟨hr, h1⟩ := (hs.ev hx).cells hf
  have hn := hi.newFix (a.eval x).cells.toList t
  rw [Array.toArray_toList] at hn
  have hE := EH.new_ext hi (a.eval x).cells.toList
  refine wpR_value (u := .pointer (some ⟨w.heap.size, 0, none⟩)) (by simp [execOp, ho, Instr.box, newVar, newRow]) ⟨_, _, M, _, rfl, q, ?_, hE, hn, alloc_below _ hi.base⟩
  exact .cptr _ 0 (EH.new_lies F w.heap.size _) (hr.mono hE) h1
/-- calls of a closure by the kinds of contracts -/
theorem op_callvb {P : Program} {al : Sl} {M : Mem} {K : AV → Mem → Prop} {o : Oper} {x : Operand} {f : FuncId} {fs cs : List AV} {xs : List Operand} {ts : Array TypeId} {vs vs' : List AV} {p : Prop} (ho : o.op = .call { callee := .value x, args := xs.toArray, argTypes := ts }) (hf : al.ev x = some (.clo (.func f) fs cs)) (hx : xs.mapM al.ev = some vs) (hc : BCall P f vs' p) (hl : Les (fs ++ vs ++ cs) vs') (q : ∀ c : Bool, (c = true ↔ p) → K (.val (.bool c)) M) : OpT P o al M K :=
  op_callvp ho hf hx hc hl (by rintro v M' ⟨⟨c, h, rfl⟩, rfl⟩; rw [List.append_nil]; exact q c h)
theorem op_callvpp {P : Program} {al : Sl} {M : Mem} {K : AV → Mem → Prop} {o : Oper} {x : Operand} {f : FuncId} {fs cs : List AV} {xs : List Operand} {ts : Array TypeId} {vs vs' : List AV} {r : AV} (ho : o.op = .call { callee := .value x, args := xs.toArray, argTypes := ts }) (hf : al.ev x = some (.clo (.func f) fs cs)) (hx : xs.mapM al.ev = some vs) (hc : PCall P f vs' r) (hl : Les (fs ++ vs ++ cs) vs') (q : K r M) : OpT P o al M K :=
  op_callvp ho hf hx hc hl (by rintro v M' ⟨rfl, rfl⟩; rw [List.append_nil]; exact q)
/-- a new object that is no cells -/
theorem Inv.newObj {B : Nat} {F : EH} {M : Mem} {w : World} (hi : Inv B F M w) (o : Obj) (ho : o.isCells = false) (p : EH → Obj → Prop) (hp : ∀ F', Ext F F' → p F' o) : Inv B F (.objp w.heap.size p :: M) (w.alloc o) := by
  refine ⟨by have := hi.base; simp; omega, fix_alloc hi o, fun r hr => ?_, ?_⟩
  · rcases List.mem_cons.1 hr with rfl | hr
    · exact ⟨hi.base, fun i => hi.dom (Nat.le_refl _), o, World.alloc_heap_new w o, ho, hp⟩
    · refine (hi.ok r hr).stay (Ext.refl F) (fun b hb => ⟨?_, fun _ => rfl⟩)
      have := (hi.ok r hr).lt hb
      rw [alloc_get, if_neg (by omega)]
  · rw [List.pairwise_cons]
    refine ⟨fun r hr => ?_, hi.far⟩
    right
    intro e
    have := (hi.ok r hr).lt e.symm
    omega
/-- the record of a loop: the slots of the frame that ranges -/
def LoopIs (n : Nat) (al : Sl) (ps : Array Tmp) (assign body : Code) (busy : Bool) (pend : Option Code) (F : EH) (o : Obj) : Prop :=
  ∃ r : Loop, o = .loop r ∧ (if busy then r.state = .busy else r.state = (if pend.isNone then .ready else .done) ∧ r.pending = pend) ∧ r.params = ps ∧ r.assign = assign ∧ r.body = body ∧ Slots n F al r.tmps
abbrev lrec (l n : Nat) (al : Sl) (ps : Array Tmp) (assign body : Code) (busy : Bool) (pend : Option Code) : Res := .objp l (LoopIs n al ps assign body busy pend)
abbrev yv (l : Nat) : AV := .val (.func (.yield l) #[] #[])
def YCall (P : Program) (l : Nat) (vs : List AV) (M : Mem) (R : AV → Mem → Prop) : Prop :=
  ∀ (B : Nat) (F : EH) (Mf : Mem) (w : World) (us : List Value), Inv B F (M ++ Mf) w → Rels F vs us → ∀ ro : Option Nat,
    YieldAt (RF ro) 0 P l us.toArray w (fun e w' => ∃ u v M' F', e = .returned u ∧ R v M' ∧ Rel F' v u ∧ Ext F F' ∧ Inv B F' (M' ++ Mf) w' ∧ Below B w w')
section
variable {P : Program} {l : Nat} {vs : List AV} {M : Mem} {R : AV → Mem → Prop}
theorem YieldAt.weak {F : Fence} {m : Nat} {args : Array Value} {W : World} {Q Q' : Ending → World → Prop} (h : YieldAt F m P l args W Q) (hr : ∀ e w, Q e w → Q' e w) : YieldAt F m P l args W Q' := by
  obtain ⟨fn, tmps, assign, body, h1, h2⟩ := h
  exact ⟨fn, tmps, assign, body, h1, h2.mono hr⟩
theorem YCall.mono {R' : AV → Mem → Prop} (h : YCall P l vs M R) (hr : ∀ v M', R v M' → R' v M') : YCall P l vs M R' :=
  fun B F Mf w us hi hv ro => YieldAt.weak (h B F Mf w us hi hv ro) fun _ _ ⟨u, v, M', F', h1, h2, h3⟩ => ⟨u, v, M', F', h1, hr _ _ h2, h3⟩
theorem YCall.frame (h : YCall P l vs M R) (M1 : Mem) : YCall P l vs (M ++ M1) (fun v M' => ∃ M0, M' = M0 ++ M1 ∧ R v M0) :=
  fun B F Mf w us hi hv ro => YieldAt.weak (h B F (M1 ++ Mf) w us (by rw [← List.append_assoc]; exact hi) hv ro) fun _ _ ⟨u, v, M', F', h1, h2, h3, h4, h5, h6⟩ =>
    ⟨u, v, M' ++ M1, F', h1, ⟨M', rfl, h2⟩, h3, h4, by rw [List.append_assoc]; exact h5, h6⟩
theorem YCall.perm {M' : Mem} (h : YCall P l vs M R) (hp : M'.Perm M) : YCall P l vs M' R :=
  fun B F Mf w us hi hv ro => h B F Mf w us (hi.perm (hp.append_right Mf)) hv ro
theorem YCall.swap {M2 : Mem} (h : YCall P l vs M R) : YCall P l vs (M2 ++ M) (fun v M' => ∃ M0, M' = M2 ++ M0 ∧ R v M0) :=
  fun B F Mf w us hi hv ro => by
    have e : (M2 ++ M ++ Mf).Perm (M ++ (M2 ++ Mf)) := by rw [List.append_assoc]; exact List.perm_append_comm_assoc _ _ _
    refine YieldAt.weak (h B F (M2 ++ Mf) w us (hi.perm e) hv ro) fun _ _ ⟨u, v, M', F', h1, h2, h3, h4, h5, h6⟩ => ⟨u, v, M2 ++ M', F', h1, ⟨M', rfl, h2⟩, h3, h4, h5.perm ?_, h6⟩
    rw [List.append_assoc]; exact List.perm_append_comm_assoc _ _ _
theorem YCall.args {vs' : List AV} (hl : Les vs vs') (h : YCall P l vs' M R) : YCall P l vs M R :=
  fun B F Mf w us hi hv ro => h B F Mf w us hi (hl _ _ hv) ro
/-- a call of yield that takes the last part of the memory along -/
theorem op_yield {al : Sl} {K : AV → Mem → Prop} {o : Oper} {x : Operand} {xs : List Operand} {ts : Array TypeId} {vs' : List AV} {MM : Mem} (M2 : Mem) (ho : o.op = .call { callee := .value x, args := xs.toArray, argTypes := ts }) (hf : al.ev x = some (yv l)) (hx : xs.mapM al.ev = some vs') (hM : MM = M2 ++ M) (hc : YCall P l vs M R) (hl : Les vs' vs) (q : ∀ v M', R v M' → K v (M2 ++ M')) : OpT P o al MM K := by
  subst hM
  intro n B F Mf a w hi hs ro
  have he := ev_val hs hf
  obtain ⟨fn, tmps, assign, body, h1, h2⟩ := (YCall.swap (M2 := M2) (YCall.args hl hc)) B F Mf w _ hi (Rels.map_ev hs hx) ro
  have e : (execOp a.eval o).run P w = .ok (.round l fn tmps assign body) w := by
    simp only [execOp, ho, resolve, he, Deferred.ofValue, Sem.run_bind, Sem.run_pure, Result.andThen_ok, invoke, List.map_toArray, List.append_toArray, List.nil_append]
    exact h1
  refine ⟨fun _ _ => trivial, ?_⟩
  rw [Oper.semAt_eq _ _ _ (not_defer e (by simp)), e]
  refine ⟨fun q => by simp [Fence.wide] at q, h2.mono ?_⟩
  rintro e w' ⟨u, v, M', F', rfl, ⟨M0, rfl, h2⟩, h3, h4, h5, h6⟩
  exact ⟨u, v, M2 ++ M0, F', rfl, q v M0 h2, h3, h4, h5, h6⟩
end
def putL : Sl → List Nat → List AV → Sl
  | al, p :: ps, v :: vs => putL ((p, v) :: al) ps vs
  | al, _, _ => al
theorem putL_slots {n : Nat} {F : EH} : ∀ {ps : List Nat} {vs : List AV} {us : List Value} {al : Sl} {tmps : Array Value}, Slots n F al tmps → (ps.all fun p => Nat.blt p n) = true → Rels F vs us → ps.length = vs.length →
    Slots n F (putL al ps vs) ((ps.zip us).foldl (fun t (p : Nat × Value) => t.setIfInBounds p.1 p.2) tmps)
  | [], vs, us, al, tmps, h, _, hr, hl => by cases vs <;> simp_all [putL]
  | p :: ps, [], us, al, tmps, h, _, hr, hl => by simp at hl
  | p :: ps, v :: vs, us, al, tmps, h, hp, hr, hl => by
    cases hr with
    | cons h1 hs =>
      simp only [List.all_cons, Bool.and_eq_true] at hp
      have hpn : p < n := by simpa [Nat.blt_eq] using hp.1
      have := Slots.put (a := { tmps := tmps, defers := [] }) (d := some p) h (by simpa using hpn) h1
      simp only [putL, List.zip_cons_cons, List.foldl_cons]
      exact putL_slots this hp.2 hs (by simpa using hl)
def RoundQ (Rn : Mem → Prop) (Rx : Code → Mem → Prop) : Exit → Sl → Mem → Prop
  | .normal, _, M => Rn M
  | .ret, _, M => Rx .ret M
  | .exit id, _, M => Rx (.exit id) M
  | .goto t, _, M => Rx (.goto t) M
  | _, _, _ => False
theorem Inv.mid {B : Nat} {F : EH} {A C : Mem} {r : Res} {w : World} : Inv B F (A ++ (r :: C)) w ↔ Inv B F (r :: (A ++ C)) w :=
  ⟨fun h => h.perm (List.perm_middle (a := r) (l₁ := A) (l₂ := C)), fun h => h.perm (List.perm_middle (a := r) (l₁ := A) (l₂ := C)).symm⟩
/-- a round, walked with the record out of sight -/
theorem YCall.of_code {P : Program} {l n : Nat} {al : Sl} {ps : List Nat} {assign body : Code} {vs : List AV} {M0 : Mem} {Rn : Mem → Prop} {Rx : Code → Mem → Prop} (hps : ps.length = vs.length) (hin : (ps.all fun p => Nat.blt p n) = true)
    (h : ACode (some l) P n assign (Then (fun al1 M1 => ACode (some l) P n body (RoundQ Rn Rx) al1 M1) (fun _ _ _ => False)) (putL al ps vs) M0) :
    YCall P l vs (lrec l n al ps.toArray assign body false none :: M0) (fun v M' => (v = .val (.bool true) ∧ ∃ M1, M' = lrec l n al ps.toArray assign body false none :: M1 ∧ Rn M1) ∨ (v = .val (.bool false) ∧ ∃ M1 c, M' = lrec l n al ps.toArray assign body false (some c) :: M1 ∧ Rx c M1)) := by
  intro B F Mf w us hi hr ro
  have hi : Inv B F (lrec l n al ps.toArray assign body false none :: (M0 ++ Mf)) w := hi
  obtain ⟨hB, hF, o, ho, _, hp⟩ := hi.ok _ (List.mem_cons_self)
  obtain ⟨r, rfl, ⟨hst, hpe⟩, hpa, has, hbo, hsl⟩ := hp F (Ext.refl F)
  have hlen := hr.len
  have hsz : us.toArray.size = r.params.size := by rw [hpa]; simp; omega
  have hfold : ((r.params.zip us.toArray).foldl (fun tmps (p : Tmp × Value) => tmps.setIfInBounds p.1 p.2) r.tmps) = (ps.zip us).foldl (fun t (p : Nat × Value) => t.setIfInBounds p.1 p.2) r.tmps := by
    rw [hpa, List.zip_toArray, List.foldl_toArray']
    simp
  refine ⟨r.fn, _, r.assign, r.body, run_yield ho hsz, roundIn_of_wpIn trivial ?_⟩
  rw [has, hbo]
  have hsl' : Slots n F (putL al ps vs) ((r.params.zip us.toArray).foldl (fun tmps (p : Tmp × Value) => tmps.setIfInBounds p.1 p.2) r.tmps) := by
    rw [hfold]
    exact putL_slots hsl hin hr hps
  have hcode := h B F (lrec l n al ps.toArray assign body false none :: Mf) { tmps := (r.params.zip us.toArray).foldl (fun tmps (p : Tmp × Value) => tmps.setIfInBounds p.1 p.2) r.tmps, defers := [] } w (Inv.mid.2 hi) hsl'
  have hcode : assign.wpIn ((RF ro).inRound l) 0 P _ _ w := hcode
  refine Code.wpIn_mono ?_ hcode
  rintro e a1 w1 ⟨Ds, F1, al1, M1, hq, hE1, hi1, hs1, hd1, hb1⟩
  cases e with
  | normal =>
    have hi1' : Inv B F1 (lrec l n al ps.toArray assign body false none :: (M1 ++ (Ds.map spent ++ Mf))) w1 := by
      refine hi1.perm ?_
      rw [← List.append_assoc, ← List.append_assoc]
      exact List.perm_middle
    obtain ⟨_, _, o1, ho1, _, hp1⟩ := hi1'.ok _ (List.mem_cons_self)
    obtain ⟨r1, rfl, ⟨hst1, hpe1⟩, hpa1, has1, hbo1, hsl1⟩ := hp1 F1 (Ext.refl F1)
    obtain ⟨_, hbl, hput⟩ := hi1'.objPut (.loop { r1 with state := .busy })
    have hi2 := hput rfl (LoopIs n al ps.toArray assign body true none) (fun F' e => ⟨_, rfl, rfl, hpa1, has1, hbo1, hsl1.mono e⟩)
    refine ⟨_, run_beginRound ho1 hst1, ?_⟩
    have hi2' : Inv B F1 (M1 ++ (Ds.map spent ++ (lrec l n al ps.toArray assign body true none :: Mf))) (w1.putObj l (.loop { r1 with state := .busy })) := by
      refine hi2.perm ?_
      rw [← List.append_assoc, ← List.append_assoc]
      exact List.perm_middle.symm
    have hbody := hq B F1 (Ds.map spent ++ (lrec l n al ps.toArray assign body true none :: Mf)) a1 _ hi2' hs1
    have hbody : body.wpIn ((RF ro).inRound l) 0 P _ a1 _ := hbody
    refine Code.wpIn_mono ?_ hbody
    rintro e a2 w2 ⟨Ds2, F2, al2, M2, hq2, hE2, hi3, hs2, hd2, hb2⟩
    have hi3' : Inv B F2 (lrec l n al ps.toArray assign body true none :: (M2 ++ (Ds2.map spent ++ (Ds.map spent ++ Mf)))) w2 := by
      refine hi3.perm ?_
      rw [← List.append_assoc, ← List.append_assoc, ← List.append_assoc, ← List.append_assoc]
      exact List.perm_middle
    obtain ⟨_, _, o3, ho3, _, hp3⟩ := hi3'.ok _ (List.mem_cons_self)
    obtain ⟨r3, rfl, hst3, hpa3, has3, hbo3, hsl3⟩ := hp3 F2 (Ext.refl F2)
    have fin : ∀ jump : Option Code, ∃ w', (Instr.endRound l jump).run P w2 = .ok (.bool jump.isNone) w' ∧ Inv B F2 ((lrec l n al ps.toArray assign body false jump :: M2) ++ Mf) w' ∧ Below B w w' := by
      intro jump
      obtain ⟨_, hbl4, hput4⟩ := hi3'.objPut (.loop { r3 with state := if jump.isNone then .ready else .done, pending := jump })
      have hi4 := hput4 rfl (LoopIs n al ps.toArray assign body false jump) (fun F' e => ⟨_, rfl, ⟨rfl, rfl⟩, hpa3, has3, hbo3, hsl3.mono e⟩)
      refine ⟨_, run_endRound jump ho3, ?_, ((hb1.trans hbl).trans hb2).trans hbl4⟩
      refine hi4.sub ?_
      rw [List.cons_append]
      refine List.Sublist.cons_cons _ (List.Sublist.append (List.Sublist.refl _) ?_)
      exact List.Sublist.trans (List.sublist_append_right _ _) (List.sublist_append_right _ _)
    cases e with
    | normal =>
      obtain ⟨w', h1, h2, h3⟩ := fin none
      exact ⟨_, w', h1, _, _, _, F2, rfl, .inl ⟨rfl, M2, rfl, hq2⟩, .val _, hE1.trans hE2, h2, h3⟩
    | ret =>
      obtain ⟨w', h1, h2, h3⟩ := fin (some .ret)
      exact ⟨_, w', h1, _, _, _, F2, rfl, .inr ⟨rfl, M2, _, rfl, hq2⟩, .val _, hE1.trans hE2, h2, h3⟩
    | exit id =>
      obtain ⟨w', h1, h2, h3⟩ := fin (some (.exit id))
      exact ⟨_, w', h1, _, _, _, F2, rfl, .inr ⟨rfl, M2, _, rfl, hq2⟩, .val _, hE1.trans hE2, h2, h3⟩
    | goto t =>
      obtain ⟨w', h1, h2, h3⟩ := fin (some (.goto t))
      exact ⟨_, w', h1, _, _, _, F2, rfl, .inr ⟨rfl, M2, _, rfl, hq2⟩, .val _, hE1.trans hE2, h2, h3⟩
    | panic c => exact hq2.elim
    | outgrown => exact hq2.elim
  | exit id => exact hq.elim
  | goto t => exact hq.elim
  | ret => exact hq.elim
  | panic c => exact hq.elim
  | outgrown => exact hq.elim
theorem c_asg {ro : Option Nat} {P : Program} {n : Nat} {c : Code} {K : Sl → Mem → Prop} {al : Sl} {M : Mem} (h : ACode ro P n c (after ro P n [.lp K] (fun _ _ _ => False)) al M) : ACode ro P n c (Then K (fun _ _ _ => False)) al M := h
theorem op_max {P : Program} {al : Sl} {M : Mem} {K : AV → Mem → Prop} {o : Oper} {x y : Operand} {ts : Array TypeId} {k : IntKind} {a b : Int} (ho : o.op = .call { callee := .builtin .max, args := #[x, y], argTypes := ts }) (hx : al.ev x = some (.val (.int k a))) (hy : al.ev y = some (.val (.int k b))) (q : K (.val (.int k (max a b))) M) : OpT P o al M K :=
  OpT.plain fun n B F Mf ac w hi hs => ⟨_, _, by
    simp [execOp, ho, resolve, invoke, builtin, Builtin.max_, ev_val hs hx, ev_val hs hy, Builtin.max2]
    split <;> omega, q, .val _⟩
theorem op_min {P : Program} {al : Sl} {M : Mem} {K : AV → Mem → Prop} {o : Oper} {x y : Operand} {ts : Array TypeId} {k : IntKind} {a b : Int} (ho : o.op = .call { callee := .builtin .min, args := #[x, y], argTypes := ts }) (hx : al.ev x = some (.val (.int k a))) (hy : al.ev y = some (.val (.int k b))) (q : K (.val (.int k (min a b))) M) : OpT P o al M K :=
  OpT.plain fun n B F Mf ac w hi hs => ⟨_, _, by
    simp [execOp, ho, resolve, invoke, builtin, Builtin.min_, ev_val hs hx, ev_val hs hy, Builtin.min2]
    split <;> omega, q, .val _⟩
theorem x_out {ro : Option Nat} {P : Program} {n : Nat} {Q : Exit → Sl → Mem → Prop} {id : Nat} {al : Sl} {M : Mem} (h : Q (.exit id) al M) : AX ro P n [] Q id al M := h
/-- no slice is longer than an int: one behind a pointer to cells that stay -/
theorem c_lenp {ro : Option Nat} {P : Program} {n : Nat} {ks : List Kont} {Q : Exit → Sl → Mem → Prop} {al : Sl} {M : Mem} {c : Code} {t j m : Nat} {cs : List AV} {v : AV} {es : List (List AV)} (ht : al.lookup t = some (.cptr cs)) (hj : cs[j]? = some v) (hq : IsSeq v m es) (h : es.length ≤ 9223372036854775807 → ACode ro P n c (after ro P n ks Q) al M) : ACode ro P n c (after ro P n ks Q) al M := by
  intro B F Mf a w hi hs
  have h2 := (hs.2 t _ ht).2
  generalize a.tmps.getD t undef = y at h2
  cases h2 with
  | cptr b off hl hr _ =>
    obtain ⟨u, _, hu⟩ := hr.get hj
    exact h (hq.rel hu).seq_max B F Mf a w hi hs
theorem yres {v : AV} {A B : Prop} (h : (v = .val (.bool true) ∧ A) ∨ (v = .val (.bool false) ∧ B)) : ∃ c : Bool, v = .val (.bool c) ∧ (c = true → A) ∧ (c = false → B) := by
  rcases h with ⟨rfl, h⟩ | ⟨rfl, h⟩
  · exact ⟨true, rfl, fun _ => h, fun e => by simp at e⟩
  · exact ⟨false, rfl, fun e => by simp at e, fun _ => h⟩
/-- an iterator that yields a row, one behind the other, until it is stopped -/
def Iter (P : Program) (f : FuncId) (fs cs : List AV) (xs : List (List AV)) : Prop :=
  ∀ (l : Nat) (J Jx : Nat → Mem → Prop), (∀ k x M, xs[k]? = some x → J k M → YCall P l x M (fun v M' => (v = .val (.bool true) ∧ J (k + 1) M') ∨ (v = .val (.bool false) ∧ Jx (k + 1) M'))) →
    ∀ M, J 0 M → ACall P f (fs ++ [yv l] ++ cs) M (fun _ M' => J xs.length M' ∨ ∃ k, k ≤ xs.length ∧ Jx k M')
/-- the statement, in a function's own frame -/
theorem c_range {P : Program} {n : Nat} {ks : List Kont} {Q : Exit → Sl → Mem → Prop} {al : Sl} {M : Mem} {g : Operand} {f : FuncId} {fs cs : List AV} {xs : List (List AV)} {ps : List Nat} {assign body : Code} (hg : al.ev g = some (.clo (.func f) fs cs)) (hit : Iter P f fs cs xs)
    (J : Nat → Mem → Prop) (Jx : Code → Mem → Prop) (h0 : J 0 M) (hps : ∀ x ∈ xs, ps.length = x.length) (hin : (ps.all fun p => Nat.blt p n) = true)
    (hbody : ∀ (l k : Nat) (x : List AV) (M0 : Mem), xs[k]? = some x → J k M0 → ACode (some l) P n assign (Then (fun al1 M1 => ACode (some l) P n body (RoundQ (J (k + 1)) Jx) al1 M1) (fun _ _ _ => False)) (putL al ps x) M0)
    (hdone : ∀ M', J xs.length M' → AGo none P n ks Q al M') (hjump : ∀ c M', Jx c M' → ACode none P n c (after none P n ks Q) al M') :
    ACode none P n (.rangeFunc g ps.toArray assign body) (after none P n ks Q) al M := by
  intro B F Mf a w hi hs
  have h := hs.ev hg
  generalize he : a.eval g = u at h
  cases h with
  | clo _ hvf hvc =>
    rename_i vf vc
    refine wpIn_rangeFunc fun fn _ => ?_
    have hi1 := hi.newObj (.deferred (some [])) rfl (fun _ o' => o' = .deferred (some [])) (fun _ _ => rfl)
    let r0 : Loop := { state := .ready, pending := none, fn := fn, tmps := a.tmps, params := ps.toArray, assign := assign, body := body, defers := w.heap.size }
    have hi2 := hi1.newObj (.loop r0) rfl (LoopIs n al ps.toArray assign body false none) (fun F' e => ⟨r0, rfl, ⟨rfl, rfl⟩, rfl, rfl, rfl, hs.mono e⟩)
    have hl : (w.alloc (.deferred (some []))).heap.size = w.heap.size + 1 := by simp
    rw [hl] at hi2
    have hit' := hit (w.heap.size + 1) (fun k M => ∃ M0, M = lrec (w.heap.size + 1) n al ps.toArray assign body false none :: M0 ∧ J k M0) (fun _ M => ∃ M0 c, M = lrec (w.heap.size + 1) n al ps.toArray assign body false (some c) :: M0 ∧ Jx c M0) (by
      rintro k x M0 hx ⟨M1, rfl, hJ⟩
      refine YCall.mono (YCall.of_code (hps x (List.mem_of_getElem? hx)) hin (hbody _ k x M1 hx hJ)) ?_
      rintro v M' (⟨rfl, M2, rfl, h2⟩ | ⟨rfl, M2, c, rfl, h2⟩)
      · exact .inl ⟨rfl, M2, rfl, h2⟩
      · exact .inr ⟨rfl, M2, c, rfl, h2⟩) (lrec (w.heap.size + 1) n al ps.toArray assign body false none :: M) ⟨M, rfl, h0⟩
    have hB1 : Below B w ((w.alloc (.deferred (some []))).alloc (.loop r0)) := (alloc_below _ hi.base).trans (alloc_below _ (by have := hi.base; simp; omega))
    have hi2' : Inv B F ((lrec (w.heap.size + 1) n al ps.toArray assign body false none :: M) ++ (spent w.heap.size :: Mf)) ((w.alloc (.deferred (some []))).alloc (.loop r0)) := by
      refine hi2.perm ?_
      rw [List.cons_append]
      exact (List.Perm.cons _ (List.perm_middle (a := spent w.heap.size) (l₁ := M) (l₂ := Mf))).symm
    let W1 : World := (w.alloc (.deferred (some []))).alloc (.loop r0)
    refine ⟨w.heap.size + 1, [mark w.heap.size], W1, { target := .fn (.func f) vc.toArray, args := (vf ++ [Value.func (.yield (w.heap.size + 1)) #[] #[]]).toArray }, W1, f, (vf ++ [Value.func (.yield (w.heap.size + 1)) #[] #[]] ++ vc).toArray, W1, run_enterLoop_outer fn a.tmps ps.toArray assign body, ?_, fun _ _ => trivial, ?_, fun q => by simp [Fence.wide] at q, ?_⟩
    · have hc : a.eval (.const (.func (.yield (w.heap.size + 1)) #[] #[])) = .func (.yield (w.heap.size + 1)) #[] #[] := rfl
      simp [resolve, he, Deferred.ofValue, hc]
    · simp only [invoke, List.append_toArray]
      exact hit'.ent _ _
    · refine callsIn_RF.2 ((hit'.run B F (spent w.heap.size :: Mf) _ _ hi2' ((hvf.app (Rels.cons (.val _) .nil)).app hvc)).mono ?_)
      rintro e w3 ⟨u, v, M', F', rfl, hor, _, hE, hi3, hb3⟩
      rcases hor with ⟨M0, rfl, hJ⟩ | ⟨_, _, M0, c, rfl, hJ⟩
      · have hi3 : Inv B F' (lrec (w.heap.size + 1) n al ps.toArray assign body false none :: (M0 ++ (spent w.heap.size :: Mf))) w3 := hi3
        obtain ⟨_, _, o3, ho3, _, hp3⟩ := hi3.ok _ (List.mem_cons_self)
        obtain ⟨r3, rfl, ⟨hst3, hpe3⟩, _⟩ := hp3 F' (Ext.refl F')
        obtain ⟨hi4, hbl4, _⟩ := hi3.objPut (.loop { r3 with state := .exhausted })
        have hend : (Instr.endLoop (w.heap.size + 1)).run P w3 = .ok (none) (w3.putObj (w.heap.size + 1) (.loop { r3 with state := .exhausted })) := by
          rw [run_endLoop (P := P) ho3 (by rw [hst3]; simp), hpe3]
        refine ⟨none, _, hend, ?_⟩
        exact ⟨[w.heap.size], F', al, M0, hdone M0 hJ, hE, hi4, hs.mono hE, rfl, (hB1.trans hb3).trans hbl4⟩
      · have hi3 : Inv B F' (lrec (w.heap.size + 1) n al ps.toArray assign body false (some c) :: (M0 ++ (spent w.heap.size :: Mf))) w3 := hi3
        obtain ⟨_, _, o3, ho3, _, hp3⟩ := hi3.ok _ (List.mem_cons_self)
        obtain ⟨r3, rfl, ⟨hst3, hpe3⟩, _⟩ := hp3 F' (Ext.refl F')
        obtain ⟨hi4, hbl4, _⟩ := hi3.objPut (.loop { r3 with state := .exhausted })
        have hend : (Instr.endLoop (w.heap.size + 1)).run P w3 = .ok (some c) (w3.putObj (w.heap.size + 1) (.loop { r3 with state := .exhausted })) := by
          rw [run_endLoop (P := P) ho3 (by rw [hst3]; simp), hpe3]
        refine ⟨some c, _, hend, ?_⟩
        refine Code.wpIn_mono ?_ (hjump c M0 hJ B F' (spent w.heap.size :: Mf) { a with defers := mark w.heap.size :: a.defers } _ hi4 (hs.mono hE))
        intro e a5 w5 hp
        exact PostD.next (Ds := [w.heap.size]) hE ((hB1.trans hb3).trans hbl4) hp
end Go.Proofs.Ytecpnlhjjmcllaa
namespace Go.Proofs.Ytecpnlhjjmcllaa
open Go.RowKit
theorem MImp.rowNil (e : TypeId) (m : Nat) (M : Mem) : MImp M (.row e m (.slice none 0 0) [] :: M) := fun B F Mf w x => by
  refine ⟨x.base, x.fix, fun r hr => ?_, ?_⟩
  · rcases List.mem_cons.1 hr with rfl | hr
    · exact ⟨[], ⟨by simp, .inl ⟨rfl, rfl⟩⟩, by simp [Value.ownBlock], .nil, by intro v hv; simp at hv, by simp⟩
    · exact x.ok r hr
  · rw [List.cons_append, List.pairwise_cons]
    exact ⟨fun r _ => .inl rfl, x.far⟩
section
variable {P : Program} {al : Sl} {M : Mem} {K : AV → Mem → Prop} {o : Oper}
theorem Inv.kept' {B : Nat} {F : EH} {M : Mem} {w w' : World} (hi : Inv B F M w) (hb : Below w.heap.size w w') : Inv B F M w' := by
  refine ⟨Nat.le_trans hi.base hb.size, fun b i x e => ?_, fun r hr => ?_, hi.far⟩
  · have h := hi.fix b i x e
    have hlt := cell_size h
    unfold World.cell? at h ⊢
    rw [hb.block b hlt]; exact h
  · exact (hi.ok r hr).stay (Ext.refl F) (fun b hb' => ⟨hb.block b ((hi.ok r hr).lt hb'), fun _ => rfl⟩)
theorem get_lt {α : Type} {l : List α} {i : Nat} {x : α} (h : l[i]? = some x) : i < l.length := (List.getElem?_eq_some_iff.1 h).1
theorem row_core {B : Nat} {F : EH} {R : Mem} {w : World} {t e ty : TypeId} {z : Value} {m bytes : Nat} {u src : Value} {es es' : List (List AV)} (E : ElT P t e z m bytes) (hi : Inv B F (.row e m u es :: R) w) (hv : Rel F (.seq m es') src) (hn : es.length + es'.length ≤ 100000000000) :
    ∃ u' w', (Builtin.append_ #[t, t] ty #[u, src]).run P w = .ok u' w' ∧ Inv B F (.row e m u' (es ++ es') :: R) w' ∧ Below B w w' := by
  obtain ⟨xs, hown, hslack, hrx, hox, hwx⟩ := hi.ok _ (List.mem_cons_self)
  have src2 : (src = .slice none 0 0 ∧ es' = []) ∨ ∃ a c news, src = .slice (some a) es'.length c ∧ news.length = es'.length * m ∧ (∀ j u, news[j]? = some u → w.cell? (a.add j) = some u) ∧ Ones news ∧ Rels F es'.flatten news ∧ ∀ x ∈ es', x.length = m := by
    cases hv with
    | seq0 _ ao cap h =>
      cases ao with
      | none => exact .inl ⟨by rw [h rfl], rfl⟩
      | some a => exact .inr ⟨a, cap, [], rfl, by simp, by simp, by intro v hv; simp at hv, .nil, by simp⟩
    | seq b off cap hm hn hl h h1 hcp =>
      rename_i vs
      refine .inr ⟨_, cap, vs, rfl, by rw [← h.len, flat_len hm], fun j x hx => ?_, h1, h, hm⟩
      rw [addr_add0]
      exact hi.fix _ _ _ (hl j x hx)
  rcases src2 with ⟨rfl, rfl⟩ | ⟨a, c, news, rfl, hl, hc, h1, hrn, hwn⟩
  · obtain ⟨i, hinf, _⟩ := info_parts E.info
    have hrun := run_append_owned_none (P := P) (w := w) B t ty e i m E.und hinf u es.length xs hown
    exact ⟨u, w, hrun, by rw [List.append_nil]; exact hi, Below.refl _ _⟩
  · obtain ⟨u', w', hrun, hown', hcase⟩ := run_app (ty := ty) E B u es.length xs hown a es'.length c news hl hc h1 hn hi.base
    have hb0 : ∀ k, k < B → w'.heap[k]? = w.heap[k]? := by
      intro k hk
      have hkw : k < w.heap.size := Nat.lt_of_lt_of_le hk hi.base
      rcases hcase with ⟨hg, _⟩ | ⟨hg, _⟩
      · refine hg.block k hkw (fun e => ?_)
        have h5 := (hi.ok _ (List.mem_cons_self)).ge (b := k) e.symm
        omega
      · exact hg.block k hkw (by simp)
    have hmisc : w'.os = w.os ∧ w'.tape = w.tape ∧ w'.output = w.output ∧ w.heap.size ≤ w'.heap.size := by
      rcases hcase with ⟨hg, _⟩ | ⟨hg, _⟩ <;> exact ⟨hg.os, hg.tape, hg.output, hg.size⟩
    have hblk : ∀ k, k < w.heap.size → some k ≠ u.ownBlock → w'.heap[k]? = w.heap[k]? := by
      intro k hk hne
      rcases hcase with ⟨hg, _⟩ | ⟨hg, _⟩
      · exact hg.block k hk hne
      · exact hg.block k hk (by simp)
    have hfar := hi.far
    rw [List.pairwise_cons] at hfar
    refine ⟨u', w', hrun, ⟨Nat.le_trans hi.base hmisc.2.2.2, fun b i x e => ?_, fun r hr => ?_, ?_⟩, ⟨hmisc.1, hmisc.2.1, hmisc.2.2.1, hmisc.2.2.2, hb0⟩⟩
    · have h := hi.fix b i x e
      have hlt := cell_size h
      have hne : some b ≠ u.ownBlock := fun q => by rw [hslack b i q.symm] at e; simp at e
      unfold World.cell? at h ⊢
      rw [hblk b hlt hne]; exact h
    · rcases List.mem_cons.1 hr with rfl | hr
      · refine ⟨xs ++ news, by rw [List.length_append]; exact hown', fun g i hg => ?_, by rw [List.flatten_append]; exact hrx.app hrn, ?_, ?_⟩
        · rcases hcase with ⟨_, he⟩ | ⟨_, he⟩
          · rw [he] at hg; exact hslack g i hg
          · rw [he] at hg; simp at hg; exact hi.dom (by omega)
        · intro v hv
          rcases List.mem_append.1 hv with q | q
          · exact hox v q
          · exact h1 v q
        · intro x hx
          rcases List.mem_append.1 hx with q | q
          · exact hwx x q
          · exact hwn x q
      · have hrok := hi.ok r (List.mem_cons_of_mem _ hr)
        refine hrok.stay (Ext.refl F) (fun b hb => ⟨hblk b (hrok.lt hb) (fun q => ?_), fun _ => rfl⟩)
        rcases hfar.1 r hr with k | k
        · simp [Res.blk] at k; rw [k] at q; simp at q
        · exact k (by rw [hb, q]; rfl)
    · rw [List.pairwise_cons]
      refine ⟨fun r hr => ?_, hfar.2⟩
      have hrok := hi.ok r (List.mem_cons_of_mem _ hr)
      rcases hcase with ⟨_, he⟩ | ⟨_, he⟩
      · have := hfar.1 r hr
        unfold Far at this ⊢
        simp only [Res.blk] at this ⊢
        rw [he]; exact this
      · right
        simp only [Res.blk]
        rw [he]
        intro q
        have := hrok.lt q.symm
        omega
/-- append to a row -/
theorem op_append_row {s x : Operand} {t e : TypeId} {z u : Value} {m bytes i : Nat} {v : AV} {es es' : List (List AV)} (E : ElT P t e z m bytes) (ho : o.op = .call { callee := .builtin .append, args := #[s, x], argTypes := #[t, t] }) (hs : al.ev s = some (.val u)) (hm : M[i]? = some (.row e m u es)) (hx : al.ev x = some v) (hv : IsSeq v m es') (hn : es.length + es'.length ≤ 100000000000)
    (q : ∀ ao cap, K (.val (.slice ao (es.length + es'.length) cap)) (M.set i (.row e m (.slice ao (es.length + es'.length) cap) (es ++ es')))) : OpT P o al M K := by
  intro n B F Mf a w hi hsl ro
  have hil : i < M.length := get_lt hm
  have hu := ev_val hsl hs
  have hi2 := hi.perm ((perm_at hm).append_right Mf)
  rw [List.cons_append] at hi2
  obtain ⟨u', w', hrun, hi', hb⟩ := row_core (ty := o.type) E hi2 (hv.rel (hsl.ev hx)) hn
  have hform : ∃ ao cap, u' = .slice ao (es.length + es'.length) cap := by
    obtain ⟨xs, hown, _⟩ := hi'.ok _ (List.mem_cons_self)
    rw [List.length_append] at hown
    rcases hown.2 with ⟨rfl, h0⟩ | ⟨g, cap, cur, rfl, _⟩
    · exact ⟨none, 0, by rw [h0]⟩
    · exact ⟨_, cap, rfl⟩
  obtain ⟨ao, cap, rfl⟩ := hform
  refine wpR_value (w' := w') ?_ ⟨_, _, _, F, rfl, q ao cap, .val _, Ext.refl F, ?_, hb⟩
  · simp [execOp, ho, resolve, invoke, builtin, hu, hrun]
  · refine hi'.perm ?_
    rw [← List.cons_append]
    exact ((perm_set _ hil).append_right Mf).symm
/-- the length of a row -/
theorem op_len_row {x : Operand} {t e0 e : TypeId} {m i : Nat} {u : Value} {es : List (List AV)} (ho : o.op = .call { callee := .builtin .len, args := #[x], argTypes := #[t] }) (ht : P.underlying t = some (.slice e0)) (hx : al.ev x = some (.val u)) (hm : M[i]? = some (.row e m u es)) (q : es.length ≤ 9223372036854775807 → K (.val (.int .i64 es.length)) M) : OpT P o al M K :=
  OpT.plain fun n B F Mf ac w hi hs => by
    obtain ⟨xs, hown, _⟩ := hi.ok (.row e m u es) (List.mem_append_left _ (List.mem_of_getElem? hm))
    have hu := ev_val hs hx
    rcases hown.2 with ⟨rfl, h0⟩ | ⟨g, cap, cur, rfl, _, _, hnc, hcm, _⟩
    · rw [h0] at q
      exact ⟨_, _, by simp [execOp, ho, resolve, invoke, builtin, Builtin.len_, hu, underlying, ht, goInt], q (by omega), .val _⟩
    · exact ⟨_, _, by simp [execOp, ho, resolve, invoke, builtin, Builtin.len_, hu, underlying, ht, goInt], q (by unfold maxLen at hcm; omega), .val _⟩
/-- a row, cut -/
theorem op_slice_row {x hi : Operand} {t e : TypeId} {m i k : Nat} {ik : IntKind} {j : Int} {u : Value} {es : List (List AV)} (ho : o.op = .slice t x none (some hi) none) (ht : tyElem P t = some (e, m)) (hx : al.ev x = some (.val u)) (hh : al.ev hi = some (.val (.int ik j))) (hj : j = k) (hk : k ≤ es.length) (hm : M[i]? = some (.row e m u es)) (q : ∀ ao cap, K (.val (.slice ao k cap)) (M.set i (.row e m (.slice ao k cap) (es.take k)))) : OpT P o al M K := by
  intro n B F Mf a w hi' hsl ro
  have hil : i < M.length := get_lt hm
  have hu := ev_val hsl hx
  have hjv := ev_val hsl hh
  have hi2 := hi'.perm ((perm_at hm).append_right Mf)
  rw [List.cons_append] at hi2
  obtain ⟨hund, inf, hinf, rfl⟩ := tyElem_run ht
  obtain ⟨xs, hown, hslack, hrx, hox, hwx⟩ := hi2.ok _ (List.mem_cons_self)
  have hfar := hi2.far
  rw [List.pairwise_cons] at hfar
  subst hj
  have fin : ∀ (ao : Option Addr) (cap : Nat) (u' : Value), u' = .slice ao k cap → u'.ownBlock = u.ownBlock → w.ownsRow B e inf.size u' k (xs.take (k * inf.size)) → (Instr.sliceAt t u none (some (.int ik k)) none).run P w = .ok u' w →
      o.wpIn (RF ro) 0 P a w (fun a' w' => ∃ u v M' F', a' = a.put o.dst u ∧ K v M' ∧ Rel F' v u ∧ Ext F F' ∧ Inv B F' (M' ++ Mf) w' ∧ Below B w w') (fun _ _ _ => False) := by
    intro ao cap u' hform hbk hown' hrun
    subst hform
    refine wpR_value (u := .slice ao k cap) (w' := w) (by simp [execOp, ho, hu, hjv, hrun]) ⟨_, _, _, F, rfl, q ao cap, .val _, Ext.refl F, ?_, Below.refl _ _⟩
    have hinv : Inv B F (.row e inf.size (.slice ao k cap) (es.take k) :: (M.eraseIdx i ++ Mf)) w := by
      refine ⟨hi2.base, hi2.fix, fun r hr => ?_, ?_⟩
      · rcases List.mem_cons.1 hr with rfl | hr
        · refine ⟨xs.take (k * inf.size), by rw [List.length_take, Nat.min_eq_left hk]; exact hown', fun g i' hg => hslack g i' (by rw [← hbk]; exact hg), ?_, fun v hv => hox v (List.mem_of_mem_take hv), fun x hx => hwx x (List.mem_of_mem_take hx)⟩
          have := hrx.take (k * inf.size)
          rwa [flat_take hwx] at this
        · exact hi2.ok r (List.mem_cons_of_mem _ hr)
      · rw [List.pairwise_cons]
        refine ⟨fun r hr => ?_, hfar.2⟩
        have := hfar.1 r hr
        unfold Far at this ⊢
        simp only [Res.blk] at this ⊢
        rw [hbk]; exact this
    refine hinv.perm ?_
    rw [← List.cons_append]
    exact ((perm_set _ hil).append_right Mf).symm
  rcases hown.2 with ⟨rfl, h0⟩ | ⟨g, cap, cur, rfl, hbg, hg, hnc, hcm, hcs, htake⟩
  · have hk0 : k = 0 := by omega
    subst hk0
    refine fin none 0 (.slice none 0 0) rfl rfl ⟨by simp, .inl ⟨rfl, rfl⟩⟩ ?_
    simp [Instr.sliceAt, Instr.slice, underlying, hund, Instr.sliceBounds, Instr.sliceBound, asIntOf, sizeOf, typeInfo, hinf]
  · refine fin _ cap (.slice (some ⟨g, 0, none⟩) k cap) rfl rfl ⟨?_, .inr ⟨g, cap, cur, rfl, hbg, hg, by omega, hcm, hcs, ?_⟩⟩ ?_
    · rw [List.length_take, hown.1]
      have : k * inf.size ≤ es.length * inf.size := Nat.mul_le_mul_right _ hk
      omega
    · rw [← htake, List.take_take]
      have : k * inf.size ≤ es.length * inf.size := Nat.mul_le_mul_right _ hk
      rw [Nat.min_eq_left this]
    · have h1 : (0 : Int) ≤ (k : Int) ∧ (k : Int) ≤ (cap : Int) := ⟨by omega, by omega⟩
      simp [Instr.sliceAt, Instr.slice, underlying, hund, Instr.sliceBounds, Instr.sliceBound, asIntOf, sizeOf, typeInfo, hinf, h1, addr_add0]
      omega
/-- words that look at a row -/
inductive Bor (u : Value) (m : Nat) (es : List (List AV)) : List AV → List AV → Prop
  | nil : Bor u m es [] []
  | le {v v' : AV} {vs vs' : List AV} (h : Le v v') (hs : Bor u m es vs vs') : Bor u m es (v :: vs) (v' :: vs')
  | row {vs vs' : List AV} (hs : Bor u m es vs vs') : Bor u m es (.val u :: vs) (.seq m es :: vs')
theorem Bor.rels {u : Value} {m : Nat} {es : List (List AV)} {F F' : EH} (hF : Ext F F') (hu : Rel F' (.seq m es) u) : ∀ {vs vs' : List AV} {us : List Value}, Bor u m es vs vs' → Rels F vs us → Rels F' vs' us
  | _, _, _, .nil, .nil => .nil
  | _, _, _, .le h hs, .cons k ks => .cons (h _ _ (k.mono hF)) (Bor.rels hF hu hs ks)
  | _, _, _, .row hs, .cons k ks => by cases k; exact .cons hu (Bor.rels hF hu hs ks)
/-- a pure call that looks at a row, and answers a plain value -/
theorem op_callbr {f : FuncId} {xs : List Operand} {ts : Array TypeId} {vs vs' : List AV} {e : TypeId} {m : Nat} {u : Value} {es : List (List AV)} (i : Nat) {R : AV → Mem → Prop} (ho : o.op = .call { callee := .value (.func f), args := xs.toArray, argTypes := ts }) (hx : xs.mapM al.ev = some vs) (hm : M[i]? = some (.row e m u es)) (hc : ACall P f vs' [] R) (hl : Bor u m es vs vs') (q : ∀ v M', R v M' → (∃ x, v = .val x) ∧ K v M) : OpT P o al M K := by
  intro n B F Mf a w hi hs ro
  have hrun : (execOp a.eval o).run P w = .ok (.enter f (xs.map a.eval).toArray) w := by
    simp only [execOp, ho, resolve, Act.eval, Deferred.ofValue, Sem.run_bind, Sem.run_pure, Result.andThen_ok, invoke, List.map_toArray, List.append_toArray, List.nil_append, List.append_nil]
    exact hc.ent _ _
  obtain ⟨zs, hown, hslack, hrx, hox, hwx⟩ := hi.ok (.row e m u es) (List.mem_append_left _ (List.mem_of_getElem? hm))
  have hext : Ext F (F.grow u.ownBlock zs) := by
    intro b j x h
    unfold EH.grow
    split
    · rename_i hh
      rw [hslack b j hh.1.symm] at h; simp at h
    · exact h
  have hinv : Inv w.heap.size (F.grow u.ownBlock zs) ([] ++ []) w := by
    refine ⟨Nat.le_refl _, fun b j x h => ?_, by simp, by simp⟩
    unfold EH.grow at h
    split at h
    · rename_i hh
      obtain ⟨hb, hj⟩ := hh
      rcases hown.2 with ⟨rfl, _⟩ | ⟨g, cap, cur, rfl, _⟩
      · simp [Value.ownBlock] at hb
      · simp [Value.ownBlock] at hb
        subst hb
        rw [hown.cellAt j (by rw [← hown.1]; exact hj)]; exact h
    · exact hi.fix b j x h
  have hu : Rel (F.grow u.ownBlock zs) (.seq m es) u := by
    rcases hown.2 with ⟨rfl, h0⟩ | ⟨g, cap, cur, rfl, _, _, hnc, hcm, _⟩
    · have : es = [] := List.eq_nil_of_length_eq_zero h0
      subst this
      exact .seq0 m none 0 (fun _ => rfl)
    · refine .seq (vs := zs) g 0 cap hwx (by omega) (fun j x hx => ?_) (hrx.mono hext) hox (by omega)
      have hj := get_lt hx
      unfold EH.grow
      rw [if_pos ⟨by rw [Value.ownBlock], by omega⟩, Nat.zero_add]
      exact hx
  refine wpR_enter hrun ((hc.run w.heap.size _ [] w _ hinv (hl.rels hext hu (Rels.map_ev hs hx))).mono ?_)
  rintro e w' ⟨u1, v, M', F', rfl, h2, h3, h4, h5, h6⟩
  obtain ⟨⟨x, rfl⟩, hk⟩ := q v M' h2
  cases h3
  exact ⟨_, rfl, _, _, M, F, rfl, hk, .val _, Ext.refl F, hi.kept' h6, ⟨h6.os, h6.tape, h6.output, h6.size, fun k hk => h6.block k (Nat.lt_of_lt_of_le hk hi.base)⟩⟩
theorem op_callbrb {f : FuncId} {xs : List Operand} {ts : Array TypeId} {vs vs' : List AV} {e : TypeId} {m : Nat} {u : Value} {es : List (List AV)} (i : Nat) {p : Prop} (ho : o.op = .call { callee := .value (.func f), args := xs.toArray, argTypes := ts }) (hx : xs.mapM al.ev = some vs) (hm : M[i]? = some (.row e m u es)) (hc : BCall P f vs' p) (hl : Bor u m es vs vs') (q : ∀ c : Bool, (c = true ↔ p) → K (.val (.bool c)) M) : OpT P o al M K :=
  op_callbr i ho hx hm hc hl (by rintro v M' ⟨⟨c, h, rfl⟩, rfl⟩; exact ⟨⟨_, rfl⟩, q c h⟩)
end
/-- ways that meet again -/
def Meets {σ : Type} (alx : σ → Sl) (Mx : σ → Mem) (I : σ → Prop) (al : Sl) (M : Mem) : Prop := ∃ x, I x ∧ SLe al (alx x) ∧ MLe M (Mx x)
theorem c_join {ro : Option Nat} {P : Program} {n : Nat} {ks : List Kont} {Q : Exit → Sl → Mem → Prop} {c c0 : Code} {al : Sl} {M : Mem} {σ : Type} (alx : σ → Sl) (Mx : σ → Mem) (I : σ → Prop) (h : ACode ro P n c (after ro P n [.lp (Meets alx Mx I)] (after ro P n (.code c0 :: ks) Q)) al M) (k : ∀ x, I x → AGo ro P n (.code c0 :: ks) Q (alx x) (Mx x)) : ACode ro P n c (after ro P n (.code c0 :: ks) Q) al M := by
  refine ACode.mono h ?_
  intro e al M he
  cases e with
  | normal =>
    obtain ⟨x, h1, h2, h3⟩ := he
    exact ACode.le h2 h3 (k x h1)
  | exit id => exact he
  | goto l => exact he
  | ret => exact he
  | panic c => exact he
  | outgrown => exact he
theorem x_sub {ro : Option Nat} {P : Program} {n : Nat} {ks : List Kont} {Q : Exit → Sl → Mem → Prop} {id : Nat} {al : Sl} {M : Mem} (h : AX ro P n ks Q id al M) : AX ro P n [] (after ro P n ks Q) id al M := h
theorem c_retj {ro : Option Nat} {P : Program} {n : Nat} {ks ks' : List Kont} {Q : Exit → Sl → Mem → Prop} {al : Sl} {M : Mem} (h : Q .ret al M) : ACode ro P n .ret (after ro P n ks' (after ro P n ks Q)) al M := c_ret (by rw [after_ret]; exact h)
/-- a variable that is never written again -/
theorem c_fixl {ro : Option Nat} {P : Program} {n : Nat} {ks : List Kont} {Q : Exit → Sl → Mem → Prop} {c : Code} {al : Sl} {M : Mem} (t i : Nat) {b : Nat} {cs : List AV} (ht : al.lookup t = some (.ptr b 0)) (hm : M[i]? = some (.loc b cs)) (h : ACode ro P n c (after ro P n ks Q) ((t, .cptr cs) :: al) (M.eraseIdx i)) : ACode ro P n c (after ro P n ks Q) al M := by
  intro B F Mf a w hi hsl
  have hi2 := hi.perm ((perm_at hm).append_right Mf)
  rw [List.cons_append] at hi2
  obtain ⟨hB, hF, vs, T, hb, hr, h1⟩ := hi2.ok _ (List.mem_cons_self)
  have hfar := hi2.far
  rw [List.pairwise_cons] at hfar
  have hext : Ext F (F.new b vs) := by
    intro b' j x hx
    unfold EH.new
    split
    · rename_i e; subst e; rw [hF j] at hx; simp at hx
    · exact hx
  have hinv : Inv B (F.new b vs) (M.eraseIdx i ++ Mf) w := by
    refine ⟨hi.base, fun b' j x hx => ?_, fun r hr' => ?_, hfar.2⟩
    · unfold EH.new at hx
      split at hx
      · rename_i e; subst e
        rw [cell_block hb]; exact hx
      · exact hi.fix b' j x hx
    · refine (hi2.ok r (List.mem_cons_of_mem _ hr')).stay hext (fun b' hb' => ⟨rfl, fun j => ?_⟩)
      unfold EH.new
      rw [if_neg]
      intro e
      subst e
      rcases hfar.1 r hr' with k | k
      · simp [Res.blk] at k
      · exact k hb'.symm
  have := h B (F.new b vs) Mf a w hinv ⟨hsl.1, fun t' v' e => ?_⟩
  · exact Code.wpIn_mono (fun e a w hp => PostD.next (Ds := []) hext (Below.refl _ _) hp) this
  · by_cases q : t' = t
    · subst q
      simp at e
      subst e
      obtain ⟨h4, h5⟩ := hsl.2 t' _ ht
      refine ⟨h4, ?_⟩
      generalize a.tmps.getD t' undef = y at h5
      cases h5
      exact .cptr b 0 (EH.new_lies F b vs) (hr.mono hext) h1
    · have : (t' == t) = false := by simpa using q
      rw [List.lookup, this] at e
      exact ⟨(hsl.2 t' v' e).1, (hsl.2 t' v' e).2.mono hext⟩
end Go.Proofs.Ytecpnlhjjmcllaa
namespace Go.Proofs.Ytecpnlhjjmcllaa
open Go.RowKit
inductive Drops (ds : List Nat) : Sl → Sl → Prop
  | nil : Drops ds [] []
  | skip {t : Nat} {v : AV} {al al' : Sl} (h : ds.contains t = true) (k : Drops ds al al') : Drops ds ((t, v) :: al) al'
  | keep {t : Nat} {v : AV} {al al' : Sl} (h : ds.contains t = false) (k : Drops ds al al') : Drops ds ((t, v) :: al) ((t, v) :: al')
theorem Drops.at {ds : List Nat} {al al' : Sl} (h : Drops ds al al') : ∀ t, (ds.contains t = false → al.lookup t = al'.lookup t) ∧ (ds.contains t = true → al'.lookup t = none) := by
  induction h with
  | nil => intro t; simp
  | @skip t v al al' h k ih =>
    intro s
    refine ⟨fun hs => ?_, (ih s).2⟩
    have : (s == t) = false := by
      by_cases e : s = t
      · subst e; rw [h] at hs; cases hs
      · simpa using e
    simp only [List.lookup_cons, this]
    exact (ih s).1 hs
  | @keep t v al al' h k ih =>
    intro s
    constructor
    · intro hs
      simp only [List.lookup_cons]
      cases (s == t) with
      | true => rfl
      | false => exact (ih s).1 hs
    · intro hs
      have : (s == t) = false := by
        by_cases e : s = t
        · subst e; rw [h] at hs; cases hs
        · simpa using e
      simp only [List.lookup_cons, this]
      exact (ih s).2 hs
theorem Drops.sle {ds : List Nat} {al al' : Sl} (h : Drops ds al al') : SLe al al' := fun t v e => by
  cases q : ds.contains t with
  | true => rw [((h.at t).2 q)] at e; cases e
  | false => exact ⟨v, by rw [(h.at t).1 q]; exact e, Le.refl _⟩
theorem SLe.app {al a b : Sl} (ha : SLe al a) (hb : SLe al b) : SLe al (a ++ b) := by
  intro t v e
  have e2 : List.lookup t (a ++ b) = (List.lookup t a).or (List.lookup t b) := List.lookup_append
  rw [e2] at e
  cases q : List.lookup t a with
  | some u => rw [q] at e; simp at e; subst e; exact ha t u q
  | none => rw [q] at e; simp at e; exact hb t v e
section
variable {ro : Option Nat} {P : Program} {n : Nat} {ks : List Kont} {Q : Exit → Sl → Mem → Prop} {al al' : Sl} {M : Mem} {σ : Type}
theorem c_loopk {c : Code} (ds : List Nat) (chg : σ → Sl) (Mx : σ → Mem) (I : σ → Prop) (μ : σ → Nat) (x0 : σ) (hd : Drops ds al al') (h0 : I x0) (hs : SLe al (chg x0)) (hm : MLe M (Mx x0))
    (h : ∀ x, I x → ACode ro P n c (after ro P n (.lp (Back (fun x => chg x ++ al') Mx I μ (μ x)) :: ks) Q) (chg x ++ al') (Mx x)) : ACode ro P n (.loop c) (after ro P n ks Q) al M :=
  c_loop (fun x => chg x ++ al') Mx I μ x0 h0 (hs.app hd.sle) hm h
theorem c_loopkm {c : Code} (ds : List Nat) (chg : σ → Sl) (I : σ → Prop) (μ : σ → Nat) (x0 : σ) (hd : Drops ds al al') (h0 : I x0) (hs : SLe al (chg x0))
    (h : ∀ x, I x → ACode ro P n c (after ro P n (.lp (Back (fun x => chg x ++ al') (fun _ => M) I μ (μ x)) :: ks) Q) (chg x ++ al') M) : ACode ro P n (.loop c) (after ro P n ks Q) al M :=
  c_loop (fun x => chg x ++ al') (fun _ => M) I μ x0 h0 (hs.app hd.sle) (MLe.refl _) h
theorem c_joink {c c0 : Code} (ds : List Nat) (chg : σ → Sl) (Mx : σ → Mem) (I : σ → Prop) (_ : Drops ds al al') (h : ACode ro P n c (after ro P n [.lp (Meets (fun x => chg x ++ al') Mx I)] (after ro P n (.code c0 :: ks) Q)) al M) (k : ∀ x, I x → AGo ro P n (.code c0 :: ks) Q (chg x ++ al') (Mx x)) : ACode ro P n c (after ro P n (.code c0 :: ks) Q) al M :=
  c_join (fun x => chg x ++ al') Mx I h k
theorem c_joinkm {c c0 : Code} (ds : List Nat) (chg : σ → Sl) (I : σ → Prop) (_ : Drops ds al al') (h : ACode ro P n c (after ro P n [.lp (Meets (fun x => chg x ++ al') (fun _ => M) I)] (after ro P n (.code c0 :: ks) Q)) al M) (k : ∀ x, I x → AGo ro P n (.code c0 :: ks) Q (chg x ++ al') M) : ACode ro P n c (after ro P n (.code c0 :: ks) Q) al M :=
  c_join (fun x => chg x ++ al') (fun _ => M) I h k
end
/-- a call that answers some bool -/
abbrev ZCall (P : Program) (f : FuncId) (vs : List AV) : Prop := ACall P f vs [] (fun v M => (∃ c : Bool, v = .val (.bool c)) ∧ M = [])
theorem op_callz {P : Program} {o : Oper} {al : Sl} {M : Mem} {K : AV → Mem → Prop} {f : FuncId} {xs : List Operand} {ts : Array TypeId} {vs vs' : List AV} (ho : o.op = .call { callee := .value (.func f), args := xs.toArray, argTypes := ts }) (hx : xs.mapM al.ev = some vs) (hc : ZCall P f vs') (hl : Les vs vs') (q : ∀ c : Bool, (c = true ↔ c = true) → K (.val (.bool c)) M) : OpT P o al M K :=
  op_call ho hx ((ACall.args hl hc).frame M) (by rintro v M' ⟨M0, rfl, ⟨c, rfl⟩, rfl⟩; exact q c Iff.rfl)
end Go.Proofs.Ytecpnlhjjmcllaa
namespace Go.Proofs.Ytecpnlhjjmcllaa
open Go.RowKit
section
variable {P : Program} {o : Oper} {al : Sl} {M : Mem} {K : AV → Mem → Prop}
theorem Rel.cap {F : EH} {m : Nat} {es : List (List AV)} {u : Value} (h : Rel F (.seq m es) u) : ∃ ao cap, u = .slice ao es.length cap ∧ es.length ≤ cap := by
  cases h with
  | seq0 _ ao cap hc => exact ⟨ao, cap, rfl, by simp⟩
  | seq b off cap hm hn hl h h1 hc => exact ⟨_, cap, rfl, hc⟩
theorem op_cut_of {x : Operand} {t : TypeId} {m l k : Nat} {v : AV} {es : List (List AV)} {lo hi mx : Option Operand} (ho : o.op = .slice t x lo hi mx) (hx : al.ev x = some v) (hv : IsSeq v m es) (hlk : l ≤ k) (hk : k ≤ es.length)
    (hr : ∀ (n : Nat) (F : EH) (a : Act) (w : World) (ao : Option Addr) (cap : Nat), Slots n F al a.tmps → es.length ≤ cap → (Instr.sliceAt t (.slice ao es.length cap) (lo.map a.eval) (hi.map a.eval) (mx.map a.eval)).run P w = .ok (.slice (if cap = l then ao else ao.map (·.add (l * m))) (k - l) (cap - l)) w)
    (q : K (.seq m ((es.take k).drop l)) M) : OpT P o al M K := by
  intro n B F Mf a w hi' hsl ro
  have hrel := hv.rel (hsl.ev hx)
  obtain ⟨ao, cap, hu, hcap⟩ := hrel.cap
  obtain ⟨ao', cap', hu', hmax, hsub⟩ := hrel.sub hlk hk
  rw [hu] at hu'
  simp only [Value.slice.injEq, true_and] at hu'
  obtain ⟨rfl, rfl⟩ := hu'
  refine wpR_value (w' := w) (by simp [execOp, ho, hu, hr n F a w ao cap hsl hcap]) ⟨_, _, _, F, rfl, q, hsub hcap, Ext.refl F, hi', Below.refl _ _⟩
theorem ev_int {n : Nat} {F : EH} {a : Act} {x : Operand} {ik : IntKind} {j : Int} (hs : Slots n F al a.tmps) (h : al.ev x = some (.val (.int ik j))) : a.eval x = .int ik j := ev_val hs h
/-- x[l:k] -/
theorem op_cut {x lo hi : Operand} {t e : TypeId} {m l k : Nat} {v : AV} {es : List (List AV)} {k1 k2 : IntKind} {a b : Int} (ho : o.op = .slice t x (some lo) (some hi) none) (ht : tyElem P t = some (e, m)) (hx : al.ev x = some v) (hv : IsSeq v m es) (h1 : al.ev lo = some (.val (.int k1 a))) (h2 : al.ev hi = some (.val (.int k2 b))) (ha : a = l) (hb : b = k) (hlk : l ≤ k) (hk : k ≤ es.length)
    (q : K (.seq m ((es.take k).drop l)) M) : OpT P o al M K :=
  op_cut_of ho hx hv hlk hk (fun n F ac w ao cap hs hc => by
    obtain ⟨hund, inf, hinf, rfl⟩ := tyElem_run ht
    have e1 := ev_int hs h1
    have e2 := ev_int hs h2
    subst ha hb
    have c1 : k ≤ cap := by omega
    have c2 : l ≤ k := hlk
    simp [Instr.sliceAt, Instr.slice, underlying, hund, Instr.sliceBounds, Instr.sliceBound, asIntOf, sizeOf, typeInfo, hinf, e1, e2, c1, c2]) q
/-- x[:k] -/
theorem op_cuth {x hi : Operand} {t e : TypeId} {m k : Nat} {v : AV} {es : List (List AV)} {k2 : IntKind} {b : Int} (ho : o.op = .slice t x none (some hi) none) (ht : tyElem P t = some (e, m)) (hx : al.ev x = some v) (hv : IsSeq v m es) (h2 : al.ev hi = some (.val (.int k2 b))) (hb : b = k) (hk : k ≤ es.length)
    (q : K (.seq m (es.take k)) M) : OpT P o al M K :=
  op_cut_of (l := 0) (k := k) ho hx hv (Nat.zero_le _) hk (fun n F ac w ao cap hs hc => by
    obtain ⟨hund, inf, hinf, rfl⟩ := tyElem_run ht
    have e2 := ev_int hs h2
    subst hb
    have c1 : k ≤ cap := by omega
    simp [Instr.sliceAt, Instr.slice, underlying, hund, Instr.sliceBounds, Instr.sliceBound, asIntOf, sizeOf, typeInfo, hinf, e2, c1]) (by simpa using q)
/-- x[l:] -/
theorem op_cutl {x lo : Operand} {t e : TypeId} {m l : Nat} {v : AV} {es : List (List AV)} {k1 : IntKind} {a : Int} (ho : o.op = .slice t x (some lo) none none) (ht : tyElem P t = some (e, m)) (hx : al.ev x = some v) (hv : IsSeq v m es) (h1 : al.ev lo = some (.val (.int k1 a))) (ha : a = l) (hl : l ≤ es.length)
    (q : K (.seq m (es.drop l)) M) : OpT P o al M K :=
  op_cut_of (l := l) (k := es.length) ho hx hv hl (Nat.le_refl _) (fun n F ac w ao cap hs hc => by
    obtain ⟨hund, inf, hinf, rfl⟩ := tyElem_run ht
    have e1 := ev_int hs h1
    subst ha
    have c2 : l ≤ es.length := hl
    simp [Instr.sliceAt, Instr.slice, underlying, hund, Instr.sliceBounds, Instr.sliceBound, asIntOf, sizeOf, typeInfo, hinf, e1, c2]) (by simpa using q)
/-- an element of an array that is a struct -/
theorem op_index_av {x y : Operand} {t e : TypeId} {ik : IntKind} {len m i : Nat} {j : Int} {cs cs' : List AV} (ho : o.op = .index t x y) (ht : P.underlying t = some (.array len e)) (he : tyAgg P e = some (some m)) (hx : al.ev x = some (.agg cs)) (hy : al.ev y = some (.val (.int ik j))) (hj : j = i) (hlt : i < len) (hc : (cs.drop (i * m)).take m = cs') (q : K (.agg cs') M) : OpT P o al M K :=
  OpT.plain fun n B F Mf ac w hi hs => by
    have h := hs.ev hx
    have h2 := ev_int hs hy
    generalize hu : ac.eval x = u at h
    cases h with
    | agg h h1 =>
      rename_i vs
      have hr := (h.drop (i * m)).take m
      rw [hc] at hr
      refine ⟨.agg ((vs.drop (i * m)).take m).toArray, _, ?_, q, .agg hr (fun v hv => h1 v (List.mem_of_mem_drop (List.mem_of_mem_take hv)))⟩
      subst hj
      obtain ⟨a1, a2⟩ := tyAgg_some he w
      simp [execOp, ho, hu, h2, Instr.index, asIntOf, underlying, ht, hlt, a1, a2, part, List.take_drop, Nat.add_comm]
/-- a text's byte -/
theorem op_index_str {x y : Operand} {t : TypeId} {ik : IntKind} {i : Nat} {j : Int} {s : ByteArray} {b : UInt8} (ho : o.op = .index t x y) (ht : P.underlying t = some .string) (hx : al.ev x = some (.val (.string s))) (hy : al.ev y = some (.val (.int ik j))) (hj : j = i) (hc : s[i]? = some b) (q : K (.val (.int .u8 b.toNat)) M) : OpT P o al M K :=
  OpT.plain fun n B F Mf ac w hi hs => by
    have h1 : ac.eval x = .string s := ev_val hs hx
    have h2 := ev_int hs hy
    refine ⟨.int .u8 b.toNat, _, ?_, q, .val _⟩
    subst hj
    simp [execOp, ho, h1, h2, Instr.index, asIntOf, underlying, ht, hc]
end
end Go.Proofs.Ytecpnlhjjmcllaa
namespace Go.Proofs.Ytecpnlhjjmcllaa
open Go.RowKit
/-- a row that isn't nil -/
abbrev rowv (g n cap : Nat) : Value := .slice (some ⟨g, 0, none⟩) n cap
theorem addr_add0' (b off j : Nat) : (⟨b, off, none⟩ : Addr).add j = ⟨b, off + j, none⟩ := by unfold Addr.add; split <;> simp_all
theorem Inv.put {B : Nat} {F : EH} {M Mf : Mem} {w w' : World} {i b : Nat} {r0 r1 : Res} (hi : Inv B F (M ++ Mf) w) (hm : M[i]? = some r0) (hb0 : r0.blk = some b) (hb1 : r1.blk = some b) (hF : ∀ j, F b j = none) (hr1 : r1.Ok B F w') (hk : ∀ k, k ≠ b → w'.heap[k]? = w.heap[k]?) (hsz : w'.heap.size = w.heap.size) : Inv B F (M.set i r1 ++ Mf) w' := by
  have hil := get_lt hm
  have hi2 := hi.perm ((perm_at hm).append_right Mf)
  rw [List.cons_append] at hi2
  have hfar := hi2.far
  rw [List.pairwise_cons] at hfar
  have h : Inv B F (r1 :: (M.eraseIdx i ++ Mf)) w' := by
    refine ⟨by rw [hsz]; exact hi.base, fun c j x h => ?_, fun r hr => ?_, List.pairwise_cons.2 ⟨fun r hr => ?_, hfar.2⟩⟩
    · have hne : c ≠ b := fun e => by subst e; rw [hF j] at h; simp at h
      rw [World.cell?_of_block (w := w) (hk c hne)]
      exact hi.fix c j x h
    · rcases List.mem_cons.1 hr with rfl | hr
      · exact hr1
      · refine (hi2.ok r (List.mem_cons_of_mem _ hr)).stay (Ext.refl F) (fun c hc => ⟨hk c ?_, fun _ => rfl⟩)
        intro e
        subst e
        rcases hfar.1 r hr with k | k
        · rw [hb0] at k; simp at k
        · exact k (by rw [hb0, hc])
    · right
      rw [hb1]
      rcases hfar.1 r hr with k | k
      · rw [hb0] at k; simp at k
      · rw [hb0] at k; exact k
  refine h.perm ?_
  rw [← List.cons_append]
  exact ((perm_set _ hil).append_right Mf).symm
/-- what is known of a row -/
structure RowAt (B : Nat) (F : EH) (w : World) (e : TypeId) (m g n cap : Nat) (es : List (List AV)) (cur : Array Value) : Prop where
  len : n = es.length
  ge : B ≤ g
  no : ∀ i, F g i = none
  wid : ∀ x ∈ es, x.length = m
  at_ : w.heap[g]? = some (.cells cur e (0, 0))
  fit : n ≤ cap
  max : cap ≤ maxLen
  siz : cur.size = cap * m
  rel : Rels F es.flatten (cur.toList.take (n * m))
  one : Ones (cur.toList.take (n * m))
theorem Res.Ok.row {B : Nat} {F : EH} {w : World} {e : TypeId} {m g n cap : Nat} {es : List (List AV)} (h : (Res.row e m (rowv g n cap) es).Ok B F w) : ∃ cur, RowAt B F w e m g n cap es cur := by
  obtain ⟨xs, hown, hslack, hrx, hox, hwx⟩ := h
  have hn := hown.1
  rcases hown.2 with ⟨q, _⟩ | ⟨g', cap', cur, q, hbg, hg, hnc, hcm, hcs, htake⟩
  · simp at q
  · simp only [Value.slice.injEq, Option.some.injEq, Addr.mk.injEq, and_true] at q
    obtain ⟨rfl, rfl, rfl⟩ := q
    refine ⟨cur, rfl, hbg, fun i => hslack g i rfl, hwx, hg, hnc, hcm, hcs, ?_, ?_⟩ <;> rw [htake] <;> assumption
theorem RowAt.ok {B : Nat} {F : EH} {w : World} {e : TypeId} {m g n cap : Nat} {es : List (List AV)} {cur : Array Value} (h : RowAt B F w e m g n cap es cur) : (Res.row e m (rowv g n cap) es).Ok B F w := by
  obtain ⟨h1, h2, h3, h4, h5, h6, h7, h8, h9, h10⟩ := h
  subst h1
  refine ⟨cur.toList.take (es.length * m), ⟨?_, .inr ⟨g, cap, cur, rfl, h2, h5, h6, h7, h8, rfl⟩⟩, fun g' i hg => ?_, h9, h10, h4⟩
  · rw [List.length_take]
    have : es.length * m ≤ cap * m := Nat.mul_le_mul_right _ h6
    have h8' : cur.toList.length = cap * m := h8
    omega
  · simp [Value.ownBlock] at hg; subst hg; exact h3 i
theorem Inv.rowAt {B : Nat} {F : EH} {M Mf : Mem} {w : World} {i : Nat} {e : TypeId} {m g n cap : Nat} {es : List (List AV)} (hi : Inv B F (M ++ Mf) w) (hm : M[i]? = some (.row e m (rowv g n cap) es)) : ∃ cur, RowAt B F w e m g n cap es cur :=
  (hi.ok _ (List.mem_append_left _ (List.mem_of_getElem? hm))).row
theorem RowAt.cell {B : Nat} {F : EH} {w : World} {e : TypeId} {m g n cap : Nat} {es : List (List AV)} {cur : Array Value} (h : RowAt B F w e m g n cap es cur) {j : Nat} (hj : j < n * m) : w.cell? ⟨g, j, none⟩ = (cur.toList.take (n * m))[j]? := by
  unfold World.cell?
  simp [h.at_, hj]
theorem flat_at {m : Nat} {es : List (List AV)} (hw : ∀ x ∈ es, x.length = m) {k : Nat} {cs : List AV} (hk : es[k]? = some cs) (f : Nat) : (es.flatten.drop (k * m)).take m = cs ∧ (f < m → es.flatten[k * m + f]? = cs[f]?) := by
  have h1 : (es.drop k) = cs :: es.drop (k + 1) := by
    obtain ⟨h, rfl⟩ := List.getElem?_eq_some_iff.1 hk
    exact List.drop_eq_getElem_cons h
  have hl : cs.length = m := hw _ (List.mem_of_getElem? hk)
  have h2 := flat_drop hw k
  constructor
  · rw [h2, h1, List.flatten_cons, ← hl, List.take_left]
  · intro hf
    rw [← List.getElem?_drop, h2, h1, List.flatten_cons, List.getElem?_append_left (by omega)]
section
variable {P : Program} {al : Sl} {M : Mem} {K : AV → Mem → Prop} {o : Oper}
theorem op_index_row {x y : Operand} {t e : TypeId} {ik : IntKind} {m i g n cap k : Nat} {j : Int} {es : List (List AV)} (ho : o.op = .indexAddr t x y) (ht : tyElem P t = some (e, m)) (hx : al.ev x = some (.val (rowv g n cap))) (hm : M[i]? = some (.row e m (rowv g n cap) es)) (hy : al.ev y = some (.val (.int ik j))) (hj : j = k) (hlt : k < es.length) (q : K (.ptr g (k * m)) M) : OpT P o al M K :=
  OpT.plain fun n' B F Mf ac w hi hs => by
    obtain ⟨cur, hr⟩ := hi.rowAt hm
    obtain ⟨hu, inf, hinf, rfl⟩ := tyElem_run ht
    have hl := hr.len
    subst hj
    refine ⟨.pointer (some ⟨g, k * inf.size, none⟩), _, ?_, q, .ptr _ _⟩
    have e1 : (⟨g, 0, none⟩ : Addr).add (k * inf.size) = ⟨g, k * inf.size, none⟩ := by rw [addr_add0', Nat.zero_add]
    simp [execOp, ho, ev_val hs hx, ev_val hs hy, Instr.indexAt, asIntOf, underlying, hu, sizeOf, typeInfo, hinf, e1]
    omega
theorem op_load_row {x : Operand} {t e : TypeId} {m i g n cap off k : Nat} {cs : List AV} {es : List (List AV)} (ho : o.op = .load t x) (ht : tyAgg P t = some (some m)) (hx : al.ev x = some (.ptr g off)) (hm : M[i]? = some (.row e m (rowv g n cap) es)) (hoff : off = k * m) (hk : es[k]? = some cs) (q : K (.agg cs) M) : OpT P o al M K :=
  OpT.plain fun n' B F Mf ac w hi hs => by
    have h := hs.ev hx
    generalize he : ac.eval x = u at h
    cases h with
    | ptr =>
      obtain ⟨cur, hr⟩ := hi.rowAt hm
      have hl : cs.length = m := hr.wid _ (List.mem_of_getElem? hk)
      have hrel := ((hr.rel.drop off).take m)
      subst hoff
      rw [(flat_at hr.wid hk 0).1] at hrel
      have hln := hrel.len
      have hkn := get_lt hk
      have hkm : k * m + m ≤ n * m := by
        have : (k + 1) * m ≤ n * m := Nat.mul_le_mul_right _ (by rw [hr.len]; omega)
        rw [Nat.add_mul] at this; omega
      refine ⟨.agg (((cur.toList.take (n * m)).drop (k * m)).take m).toArray, _, ?_, q, .agg hrel (fun v hv => hr.one v (List.mem_of_mem_drop (List.mem_of_mem_take hv)))⟩
      have hcell : ∀ j x, (((cur.toList.take (n * m)).drop (k * m)).take m)[j]? = some x → w.cell? ⟨g, k * m + j, none⟩ = some x := by
        intro j x hx
        rw [List.getElem?_take] at hx
        split at hx
        · rename_i hjm
          rw [hr.cell (by omega)]
          rwa [List.getElem?_drop] at hx
        · simp at hx
      have hload := loadCells_run (P := P) hcell
      rw [← hln, hl] at hload
      obtain ⟨a1, a2⟩ := tyAgg_some ht w
      simp only [execOp, ho, he, Instr.loadAt, Instr.sureAddr, loadVar, Sem.run_bind, Sem.run_pure, Result.andThen_ok, a1, a2, hload, if_true]
theorem op_load_row1 {x : Operand} {t e : TypeId} {m i g n cap off k f : Nat} {c : AV} {cs : List AV} {es : List (List AV)} (ho : o.op = .load t x) (ht : tyAgg P t = some none) (hx : al.ev x = some (.ptr g off)) (hm : M[i]? = some (.row e m (rowv g n cap) es)) (hoff : off = k * m + f) (hk : es[k]? = some cs) (hf : cs[f]? = some c) (q : K c M) : OpT P o al M K :=
  OpT.plain fun n' B F Mf ac w hi hs => by
    have h := hs.ev hx
    generalize he : ac.eval x = u at h
    cases h with
    | ptr =>
      obtain ⟨cur, hr⟩ := hi.rowAt hm
      have hl : cs.length = m := hr.wid _ (List.mem_of_getElem? hk)
      have hfm := get_lt hf
      have hkn := get_lt hk
      have hkm : k * m + m ≤ n * m := by
        have : (k + 1) * m ≤ n * m := Nat.mul_le_mul_right _ (by rw [hr.len]; omega)
        rw [Nat.add_mul] at this; omega
      have hc2 := (flat_at hr.wid hk f).2 (by omega)
      rw [hf] at hc2
      obtain ⟨v, h2, h3⟩ := hr.rel.get hc2
      refine ⟨v, c, ?_, q, h3⟩
      subst hoff
      have hcell := hr.cell (j := k * m + f) (by omega)
      rw [h2] at hcell
      obtain ⟨a1, a2⟩ := tyAgg_none ht w
      simp [execOp, ho, he, Instr.loadAt, Instr.sureAddr, loadVar, a1, hcell]
theorem take_setL {α : Type} : ∀ (us l : List α) (off k : Nat), off + us.length ≤ k → (setL l off us).take k = setL (l.take k) off us
  | [], l, off, k, _ => rfl
  | u :: us, l, off, k, h => by
    simp only [List.length_cons] at h
    rw [setL, setL, take_setL us _ (off + 1) k (by omega), List.take_set]
theorem op_store_rowp {x y : Operand} {t e : TypeId} {m i g n cap off k : Nat} {v : AV} {es : List (List AV)} (ho : o.op = .store t x y) (ht : (P.info? t).map (·.size) = some m) (hx : al.ev x = some (.ptr g off)) (hy : al.ev y = some v) (hf : v.flat = true) (hs : v.cells.length = m) (hm : M[i]? = some (.row e m (rowv g n cap) es)) (hoff : off = k * m) (hk : k < es.length) (q : K (.val undef) (M.set i (.row e m (rowv g n cap) (es.set k v.cells)))) : OpT P o al M K := by
  intro n' B F Mf a w hi hsl ro
  have h := hsl.ev hx
  generalize he : a.eval x = u at h
  cases h with
  | ptr =>
    obtain ⟨h1, h2⟩ := (hsl.ev hy).cells hf
    obtain ⟨cur, hr⟩ := hi.rowAt hm
    have hl1 := h1.len
    subst hoff
    have hkm : k * m + m ≤ n * m := by
      have : (k + 1) * m ≤ n * m := Nat.mul_le_mul_right _ (by rw [hr.len]; omega)
      rw [Nat.add_mul] at this; omega
    have hnc : n * m ≤ cap * m := Nat.mul_le_mul_right _ hr.fit
    have hcl : cur.toList.length = cap * m := hr.siz
    obtain ⟨w', q1, q2, q3, q4, q5, q6, q7⟩ := storeCells_run (P := P) (a.eval y).cells.toList w cur.toList (k * m) 0 (by simpa using hr.at_) h2 (by omega)
    have hrun : (execOp a.eval o).run P w = .ok .skip w' := by
      obtain ⟨inf, hinf, hsz⟩ := Option.map_eq_some_iff.1 ht
      have hcs : (a.eval y).cells.size = m := by rw [← hs, hl1]; simp
      simp [execOp, ho, he, Instr.storeAt, Instr.sureAddr, storeVar, sizeOf, typeInfo, hinf, hsz, hcs, q1]
    have htk : (setL cur.toList (k * m) (a.eval y).cells.toList).take (n * m) = setL (cur.toList.take (n * m)) (k * m) (a.eval y).cells.toList := take_setL _ _ _ _ (by omega)
    have hrow : RowAt B F w' e m g n cap (es.set k v.cells) (setL cur.toList (k * m) (a.eval y).cells.toList).toArray := by
      refine ⟨by simpa using hr.len, hr.ge, hr.no, fun z hz => ?_, q2, hr.fit, hr.max, by simpa [setL_len] using hr.siz, ?_, ?_⟩
      · rcases List.mem_or_eq_of_mem_set hz with hz | rfl
        · exact hr.wid z hz
        · exact hs
      · rw [← setL_flat es k v.cells hr.wid hs hk, htk]
        exact h1.setL _ hr.rel
      · rw [htk]
        exact setL_one _ _ _ h2 hr.one
    refine wpR_skip hrun ⟨undef, .val undef, _, F, rfl, q, .val _, Ext.refl F, hi.put hm (b := g) rfl rfl hr.no hrow.ok q3 q4, ⟨q5, q6, q7, by omega, fun k hk => q3 k (by have := hr.ge; omega)⟩⟩
/-- the same as row_core, from cells that lie somewhere -/
theorem row_core2 {B : Nat} {F : EH} {R : Mem} {w : World} {t e ty : TypeId} {z : Value} {m bytes cnt c : Nat} {u : Value} {a : Addr} {es es' : List (List AV)} {news : List Value} (E : ElT P t e z m bytes) (hi : Inv B F (.row e m u es :: R) w) (hcnt : cnt = es'.length) (hc : ∀ j u, news[j]? = some u → w.cell? (a.add j) = some u) (h1 : Ones news) (hrn : Rels F es'.flatten news) (hwn : ∀ x ∈ es', x.length = m) (hn : es.length + es'.length ≤ 100000000000) (h0 : 0 < es.length + es'.length) :
    ∃ g cap w', (Builtin.append_ #[t, t] ty #[u, .slice (some a) cnt c]).run P w = .ok (rowv g (es.length + es'.length) cap) w' ∧ Inv B F (.row e m (rowv g (es.length + es'.length) cap) (es ++ es') :: R) w' ∧ Below B w w' := by
  obtain ⟨xs, hown, hslack, hrx, hox, hwx⟩ := hi.ok _ (List.mem_cons_self)
  subst hcnt
  have hl : news.length = es'.length * m := by rw [← hrn.len, flat_len hwn]
  obtain ⟨u', w', hrun, hown', hcase⟩ := run_app (ty := ty) E B u es.length xs hown a es'.length c news hl hc h1 hn hi.base
  have hb0 : ∀ k, k < B → w'.heap[k]? = w.heap[k]? := by
    intro k hk
    have hkw : k < w.heap.size := Nat.lt_of_lt_of_le hk hi.base
    rcases hcase with ⟨hg, _⟩ | ⟨hg, _⟩
    · refine hg.block k hkw (fun e => ?_)
      have h5 := (hi.ok _ (List.mem_cons_self)).ge (b := k) e.symm
      omega
    · exact hg.block k hkw (by simp)
  have hmisc : w'.os = w.os ∧ w'.tape = w.tape ∧ w'.output = w.output ∧ w.heap.size ≤ w'.heap.size := by
    rcases hcase with ⟨hg, _⟩ | ⟨hg, _⟩ <;> exact ⟨hg.os, hg.tape, hg.output, hg.size⟩
  have hblk : ∀ k, k < w.heap.size → some k ≠ u.ownBlock → w'.heap[k]? = w.heap[k]? := by
    intro k hk hne
    rcases hcase with ⟨hg, _⟩ | ⟨hg, _⟩
    · exact hg.block k hk hne
    · exact hg.block k hk (by simp)
  have hfar := hi.far
  rw [List.pairwise_cons] at hfar
  have hform : ∃ g cap, u' = rowv g (es.length + es'.length) cap := by
    rcases hown'.2 with ⟨_, q⟩ | ⟨g, cap, cur, q, _⟩
    · omega
    · exact ⟨g, cap, q⟩
  obtain ⟨g, cap, rfl⟩ := hform
  refine ⟨g, cap, w', hrun, ⟨Nat.le_trans hi.base hmisc.2.2.2, fun b i x e => ?_, fun r hr => ?_, ?_⟩, ⟨hmisc.1, hmisc.2.1, hmisc.2.2.1, hmisc.2.2.2, hb0⟩⟩
  · have h := hi.fix b i x e
    have hlt := cell_size h
    have hne : some b ≠ u.ownBlock := fun q => by rw [hslack b i q.symm] at e; simp at e
    unfold World.cell? at h ⊢
    rw [hblk b hlt hne]; exact h
  · rcases List.mem_cons.1 hr with rfl | hr
    · refine ⟨xs ++ news, by rw [List.length_append]; exact hown', fun g i hg => ?_, by rw [List.flatten_append]; exact hrx.app hrn, ?_, ?_⟩
      · rcases hcase with ⟨_, he⟩ | ⟨_, he⟩
        · rw [he] at hg; exact hslack g i hg
        · rw [he] at hg; simp at hg; exact hi.dom (by omega)
      · intro v hv
        rcases List.mem_append.1 hv with q | q
        · exact hox v q
        · exact h1 v q
      · intro x hx
        rcases List.mem_append.1 hx with q | q
        · exact hwx x q
        · exact hwn x q
    · have hrok := hi.ok r (List.mem_cons_of_mem _ hr)
      refine hrok.stay (Ext.refl F) (fun b hb => ⟨hblk b (hrok.lt hb) (fun q => ?_), fun _ => rfl⟩)
      rcases hfar.1 r hr with k | k
      · simp [Res.blk] at k; rw [k] at q; simp at q
      · exact k (by rw [hb, q]; rfl)
  · rw [List.pairwise_cons]
    refine ⟨fun r hr => ?_, hfar.2⟩
    have hrok := hi.ok r (List.mem_cons_of_mem _ hr)
    rcases hcase with ⟨_, he⟩ | ⟨_, he⟩
    · have := hfar.1 r hr
      unfold Far at this ⊢
      simp only [Res.blk] at this ⊢
      rw [he]; exact this
    · right
      simp only [Res.blk]
      rw [he]
      intro q
      have := hrok.lt q.symm
      omega
/-- append to a row, elements that never turn -/
theorem op_append_rowg {s x : Operand} {t e : TypeId} {z u : Value} {m bytes i : Nat} {v : AV} {es es' : List (List AV)} (E : ElT P t e z m bytes) (ho : o.op = .call { callee := .builtin .append, args := #[s, x], argTypes := #[t, t] }) (hs : al.ev s = some (.val u)) (hm : M[i]? = some (.row e m u es)) (hx : al.ev x = some v) (hv : IsSeq v m es') (hn : es.length + es'.length ≤ 100000000000) (h0 : 0 < es.length)
    (q : ∀ g cap, K (.val (rowv g (es.length + es'.length) cap)) (M.set i (.row e m (rowv g (es.length + es'.length) cap) (es ++ es')))) : OpT P o al M K := by
  intro n B F Mf a w hi hsl ro
  have hil : i < M.length := get_lt hm
  have hu := ev_val hsl hs
  have hi2 := hi.perm ((perm_at hm).append_right Mf)
  rw [List.cons_append] at hi2
  obtain ⟨u', w', hrun, hi', hb⟩ := row_core (ty := o.type) E hi2 (hv.rel (hsl.ev hx)) hn
  have hform : ∃ g cap, u' = rowv g (es.length + es'.length) cap := by
    obtain ⟨xs, hown, _⟩ := hi'.ok _ (List.mem_cons_self)
    rw [List.length_append] at hown
    rcases hown.2 with ⟨rfl, h0⟩ | ⟨g, cap, cur, rfl, _⟩
    · omega
    · exact ⟨g, cap, rfl⟩
  obtain ⟨g, cap, rfl⟩ := hform
  refine wpR_value (w' := w') ?_ ⟨_, _, _, F, rfl, q g cap, .val _, Ext.refl F, ?_, hb⟩
  · simp [execOp, ho, resolve, invoke, builtin, hu, hrun]
  · refine hi'.perm ?_
    rw [← List.cons_append]
    exact ((perm_set _ hil).append_right Mf).symm
/-- append to a row, elements of another row -/
theorem op_append_rowr {s x : Operand} {t e : TypeId} {z u : Value} {m bytes i j l cnt c g2 n2 c2 : Nat} {es es2 : List (List AV)} (E : ElT P t e z m bytes) (ho : o.op = .call { callee := .builtin .append, args := #[s, x], argTypes := #[t, t] }) (hs : al.ev s = some (.val u)) (hm : M[i]? = some (.row e m u es)) (hx : al.ev x = some (.val (.slice (some ⟨g2, l * m, none⟩) cnt c))) (hm2 : M[j]? = some (.row e m (rowv g2 n2 c2) es2)) (hl : l + cnt ≤ es2.length) (hn : es.length + cnt ≤ 100000000000) (h0 : 0 < es.length)
    (q : ∀ g cap, K (.val (rowv g (es.length + cnt) cap)) (M.set i (.row e m (rowv g (es.length + cnt) cap) (es ++ (es2.drop l).take cnt)))) : OpT P o al M K := by
  intro n B F Mf a w hi hsl ro
  have hil : i < M.length := get_lt hm
  have hu := ev_val hsl hs
  have hu2 := ev_val hsl hx
  obtain ⟨cur, hr⟩ := hi.rowAt hm2
  have hi2 := hi.perm ((perm_at hm).append_right Mf)
  rw [List.cons_append] at hi2
  have hcl : cnt = ((es2.drop l).take cnt).length := by rw [List.length_take, List.length_drop]; omega
  have hwid : ∀ x ∈ (es2.drop l).take cnt, x.length = m := fun x hx => hr.wid x (List.mem_of_mem_drop (List.mem_of_mem_take hx))
  have hrel := (hr.rel.drop (l * m)).take (cnt * m)
  have hwd : ∀ x ∈ es2.drop l, x.length = m := fun x hx => hr.wid x (List.mem_of_mem_drop hx)
  rw [flat_drop hr.wid, flat_take hwd] at hrel
  have hlm : l * m + cnt * m ≤ n2 * m := by rw [← Nat.add_mul]; exact Nat.mul_le_mul_right _ (by rw [hr.len]; exact hl)
  have key := row_core2 (ty := o.type) (c := c) (a := ⟨g2, l * m, none⟩) (cnt := cnt) E hi2 hcl (fun j' u' hj' => ?_) (fun v hv => hr.one v (List.mem_of_mem_drop (List.mem_of_mem_take hv))) hrel hwid (by omega) (by omega)
  · obtain ⟨g, cap, w', hrun, hi', hb⟩ := key
    rw [← hcl] at hrun hi'
    refine wpR_value (w' := w') ?_ ⟨_, _, _, F, rfl, q g cap, .val _, Ext.refl F, ?_, hb⟩
    · simp [execOp, ho, resolve, invoke, builtin, hu, hu2, hrun]
    · refine hi'.perm ?_
      rw [← List.cons_append]
      exact ((perm_set _ hil).append_right Mf).symm
  · rw [addr_add0']
    have hj2 := get_lt hj'
    rw [List.length_take] at hj2
    rw [hr.cell (by omega)]
    rw [List.getElem?_take] at hj'
    split at hj'
    · rwa [List.getElem?_drop] at hj'
    · simp at hj'
/-- a part of a row, to be looked at -/
theorem op_cut_row {x lo hi : Operand} {t e : TypeId} {m i l k g n cap : Nat} {k1 k2 : IntKind} {a b : Int} {es : List (List AV)} (ho : o.op = .slice t x (some lo) (some hi) none) (ht : tyElem P t = some (e, m)) (hx : al.ev x = some (.val (rowv g n cap))) (hm : M[i]? = some (.row e m (rowv g n cap) es)) (h1 : al.ev lo = some (.val (.int k1 a))) (h2 : al.ev hi = some (.val (.int k2 b))) (ha : a = l) (hb : b = k) (hlk : l < k) (hk : k ≤ es.length)
    (q : K (.val (.slice (some ⟨g, l * m, none⟩) (k - l) (cap - l))) M) : OpT P o al M K :=
  OpT.plain fun n' B F Mf ac w hi hs => by
    obtain ⟨cur, hr⟩ := hi.rowAt hm
    obtain ⟨hund, inf, hinf, rfl⟩ := tyElem_run ht
    have e0 : ac.eval x = .slice (some ⟨g, 0, none⟩) n cap := ev_val hs hx
    have e1 := ev_int hs h1
    have e2 := ev_int hs h2
    have h3 := hr.len
    have h4 := hr.fit
    subst ha hb
    refine ⟨_, _, ?_, q, .val _⟩
    have c1 : k ≤ cap := by omega
    have c2 : l ≤ k := by omega
    have c3 : ¬ cap = l := by omega
    have e3 : (⟨g, 0, none⟩ : Addr).add (l * inf.size) = ⟨g, l * inf.size, none⟩ := by rw [addr_add0', Nat.zero_add]
    simp [execOp, ho, e0, Instr.sliceAt, Instr.slice, underlying, hund, Instr.sliceBounds, Instr.sliceBound, asIntOf, sizeOf, typeInfo, hinf, e1, e2, c1, c2, c3, e3]
/-- the length of a slice that is known -/
theorem op_len_val {x : Operand} {t e : TypeId} {ao : Option Addr} {n cap : Nat} (ho : o.op = .call { callee := .builtin .len, args := #[x], argTypes := #[t] }) (ht : P.underlying t = some (.slice e)) (hx : al.ev x = some (.val (.slice ao n cap))) (q : K (.val (.int .i64 n)) M) : OpT P o al M K :=
  OpT.plain fun n' B F Mf ac w hi hs => ⟨_, _, by simp [execOp, ho, resolve, invoke, builtin, Builtin.len_, ev_val hs hx, underlying, ht, goInt], q, .val _⟩
/-- an element of an array in a variable -/
theorem op_index_arrm {x y : Operand} {t e : TypeId} {ik : IntKind} {len m b off k : Nat} {j : Int} (ho : o.op = .indexAddr t x y) (ht : P.underlying t = some (.array len e)) (hz : (P.info? e).map (·.size) = some m) (hx : al.ev x = some (.ptr b off)) (hy : al.ev y = some (.val (.int ik j))) (hj : j = k) (hlt : k < len) (q : K (.ptr b (off + k * m)) M) : OpT P o al M K :=
  OpT.plain fun n B F Mf ac w hi hs => by
    have h := hs.ev hx
    generalize he : ac.eval x = u at h
    cases h with
    | ptr =>
      obtain ⟨inf, hinf, rfl⟩ := Option.map_eq_some_iff.1 hz
      subst hj
      refine ⟨.pointer (some ⟨b, off + k * inf.size, none⟩), _, ?_, q, .ptr _ _⟩
      simp [execOp, ho, he, ev_val hs hy, Instr.indexAt, asIntOf, underlying, ht, sizeOf, typeInfo, hinf, hlt, addr_add0', Instr.sureAddr]
/-- a slice literal that may be written -/
theorem op_buildSlice_row {t e : TypeId} {z : Value} {m bytes len : Nat} {parts : Array (Nat × Operand)} {xs : List Operand} {vs : List AV} (E : ElT P t e z m bytes) (ho : o.op = .buildSlice t len parts) (hp : parts.toList = idx 0 xs) (hlen : xs.length = len) (hx : xs.mapM al.ev = some vs) (hf : vs.all (·.flat) = true) (hc : vs.all (fun v => v.cells.length == m) = true) (hn : len * m ≤ 16777216)
    (q : ∀ g, K (.val (rowv g len len)) (.row e m (rowv g len len) (vs.map AV.cells) :: M)) : OpT P o al M K := by
  intro n B F Mf a w hi hsl ro
  have hf : ∀ v ∈ vs, v.flat = true := List.all_eq_true.1 hf
  have hc : ∀ v ∈ vs, v.cells.length = m := fun v hv => by simpa using List.all_eq_true.1 hc v hv
  have hr := Rels.map_ev hsl hx
  have hsz := Rels.sizes hr hf hc
  obtain ⟨h1, h2⟩ := Rels.rows hr hf
  have hln : vs.length = len := by rw [← hlen]; simpa using hr.len
  have hrun := run_buildSlice (P := P) (w := w) E (xs.map a.eval) (by simpa [hlen] using hn) hsz
  have hparts : parts.map (fun x => (x.1, a.eval x.2)) = (idx 0 (xs.map a.eval)).toArray := by
    rw [← Array.toList_inj, Array.toList_map, hp, idx_map]
  have e1 : (execOp a.eval o).run P w = .ok (.value (.slice (some ⟨w.heap.size, 0, none⟩) len len)) (w.alloc (.cells ((xs.map a.eval).map (fun u => u.cells.toList)).flatten.toArray e)) := by
    simp only [List.length_map, hlen] at hrun
    simp only [execOp, ho, hparts, Sem.run_bind, hrun, Result.andThen_ok, Sem.run_pure]
  have hwide : ∀ x ∈ vs.map AV.cells, x.length = m := by
    intro x hx
    obtain ⟨v, hv, rfl⟩ := List.mem_map.1 hx
    exact hc v hv
  have hl3 : ((xs.map a.eval).map (fun u => u.cells.toList)).flatten.length = len * m := by rw [← h1.len, flat_len hwide]; simp [hln]
  have hlm : len ≤ maxLen := by
    have h5 : len * 1 ≤ len * m := Nat.mul_le_mul_left len E.pos
    unfold maxLen; omega
  generalize hcs : ((xs.map a.eval).map (fun u => u.cells.toList)).flatten = cells at *
  refine wpR_value (w' := w.alloc (.cells cells.toArray e)) e1 ⟨_, _, _, F, rfl, q w.heap.size, .val _, Ext.refl F, ?_, alloc_below _ hi.base⟩
  refine ⟨by have := hi.base; simp; omega, fix_alloc hi _, fun r hr' => ?_, List.pairwise_cons.2 ⟨fun r hr' => ?_, hi.far⟩⟩
  · rcases List.mem_cons.1 hr' with rfl | hr'
    · refine RowAt.ok (cur := cells.toArray) ⟨by simp [hln], hi.base, fun i => hi.dom (Nat.le_refl _), hwide, by rw [alloc_get, if_pos rfl], Nat.le_refl _, hlm, by simpa using hl3, ?_, ?_⟩
      · simpa [← hl3] using h1
      · simpa [← hl3] using h2
    · refine (hi.ok r hr').stay (Ext.refl F) (fun b hb => ⟨?_, fun _ => rfl⟩)
      have := (hi.ok r hr').lt hb
      rw [alloc_get, if_neg (by omega)]
  · right
    intro q
    have := (hi.ok r hr').lt (b := w.heap.size) (by rw [← q]; rfl)
    omega
end
end Go.Proofs.Ytecpnlhjjmcllaa
namespace Go.Proofs.Ytecpnlhjjmcllaa
open Go.RowKit
/-- pieces by their places, each among those that are left -/
def pick : List Nat → Mem → Option (Mem × Mem)
  | [], M => some ([], M)
  | i :: is, M => match M[i]? with
    | none => none
    | some r => match pick is (M.eraseIdx i) with
      | none => none
      | some p => some (r :: p.1, p.2)
theorem pick_perm : ∀ {is : List Nat} {M M1 M2 : Mem}, pick is M = some (M1, M2) → M.Perm (M1 ++ M2)
  | [], M, M1, M2, h => by simp [pick] at h; obtain ⟨rfl, rfl⟩ := h; exact .refl _
  | i :: is, M, M1, M2, h => by
    rw [pick] at h
    split at h
    · cases h
    · rename_i r hr
      split at h
      · cases h
      · rename_i p hp
        simp only [Option.some.injEq, Prod.mk.injEq] at h
        obtain ⟨rfl, rfl⟩ := h
        exact (perm_at hr).trans ((pick_perm (M1 := p.1) (M2 := p.2) (by rw [hp])).cons _)
/-- a call that answers one tree, and leaves its memory as it was -/
abbrev KCall (P : Program) (f : FuncId) (vs : List AV) (M : Mem) (r : AV) : Prop := ACall P f vs M (fun v M' => v = r ∧ M' = M)
abbrev KBCall (P : Program) (f : FuncId) (vs : List AV) (M : Mem) (p : Prop) : Prop := ACall P f vs M (fun v M' => (∃ c : Bool, (c = true ↔ p) ∧ v = .val (.bool c)) ∧ M' = M)
section
variable {P : Program} {al : Sl} {M : Mem} {K : AV → Mem → Prop} {o : Oper}
theorem op_callat {f : FuncId} {xs : List Operand} {ts : Array TypeId} {vs vs' : List AV} (is : List Nat) {M1 M2 : Mem} {R : AV → Mem → Prop} (ho : o.op = .call { callee := .value (.func f), args := xs.toArray, argTypes := ts }) (hx : xs.mapM al.ev = some vs) (hp : pick is M = some (M1, M2)) (hc : ACall P f vs' M1 R) (hl : Les vs vs') (q : ∀ v M', R v M' → K v (M' ++ M2)) : OpT P o al M K :=
  op_callg ho hx hc hl (pick_perm hp) q
theorem op_callvat {x : Operand} {f : FuncId} {fs cs : List AV} {xs : List Operand} {ts : Array TypeId} {vs vs' : List AV} (is : List Nat) {M1 M2 : Mem} {R : AV → Mem → Prop} (ho : o.op = .call { callee := .value x, args := xs.toArray, argTypes := ts }) (hf : al.ev x = some (.clo (.func f) fs cs)) (hx : xs.mapM al.ev = some vs) (hp : pick is M = some (M1, M2)) (hc : ACall P f vs' M1 R) (hl : Les (fs ++ vs ++ cs) vs') (q : ∀ v M', R v M' → K v (M' ++ M2)) : OpT P o al M K :=
  op_callvg ho hf hx hc hl (pick_perm hp) q
theorem OpT.kept {M' : Mem} (hp : M.Perm M') (h : OpT P o al M (fun v M2 => K v M ∧ M2 = M')) : OpT P o al M K := by
  intro n B F Mf a w hi hs ro
  refine Oper.wpIn_mono ?_ (h n B F Mf a w hi hs ro)
  rintro a' w' ⟨u, v, M2, F', h1, ⟨h2, rfl⟩, h3, h4, h5, h6⟩
  exact ⟨u, v, M, F', h1, h2, h3, h4, h5.perm (hp.symm.append_right Mf), h6⟩
/-- a call that leaves the memory as it was -/
theorem op_callk {f : FuncId} {xs : List Operand} {ts : Array TypeId} {vs vs' : List AV} (is : List Nat) {M1 M2 : Mem} {r : AV} (ho : o.op = .call { callee := .value (.func f), args := xs.toArray, argTypes := ts }) (hx : xs.mapM al.ev = some vs) (hp : pick is M = some (M1, M2)) (hc : KCall P f vs' M1 r) (hl : Les vs vs') (q : K r M) : OpT P o al M K :=
  OpT.kept (pick_perm hp) (op_callat is ho hx hp hc hl (by rintro v M' ⟨rfl, rfl⟩; exact ⟨q, rfl⟩))
theorem op_callkb {f : FuncId} {xs : List Operand} {ts : Array TypeId} {vs vs' : List AV} (is : List Nat) {M1 M2 : Mem} {p : Prop} (ho : o.op = .call { callee := .value (.func f), args := xs.toArray, argTypes := ts }) (hx : xs.mapM al.ev = some vs) (hp : pick is M = some (M1, M2)) (hc : KBCall P f vs' M1 p) (hl : Les vs vs') (q : ∀ c : Bool, (c = true ↔ p) → K (.val (.bool c)) M) : OpT P o al M K :=
  OpT.kept (pick_perm hp) (op_callat is ho hx hp hc hl (by rintro v M' ⟨⟨c, hz, rfl⟩, rfl⟩; exact ⟨q c hz, rfl⟩))
/-- a call that leaves the memory as it was, and answers some value of which something is known -/
theorem op_callkr {f : FuncId} {xs : List Operand} {ts : Array TypeId} {vs vs' : List AV} (is : List Nat) {M1 M2 : Mem} {R : AV → Prop} (ho : o.op = .call { callee := .value (.func f), args := xs.toArray, argTypes := ts }) (hx : xs.mapM al.ev = some vs) (hp : pick is M = some (M1, M2)) (hc : ACall P f vs' M1 (fun v M' => R v ∧ M' = M1)) (hl : Les vs vs') (q : ∀ v, R v → K v M) : OpT P o al M K :=
  OpT.kept (pick_perm hp) (op_callat is ho hx hp hc hl (by rintro v M' ⟨h, rfl⟩; exact ⟨q v h, rfl⟩))
theorem Le.sle {a : Addr} {n n' c c' : Nat} (h : n = n') (k : c = c') : Le (.val (.slice (some a) n c)) (.val (.slice (some a) n' c')) := by rw [h, k]; exact Le.refl _
theorem MLe.pre : ∀ M M2 : Mem, MLe (M ++ M2) M
  | [], _ => MLe.none _
  | r :: M, M2 => .cons r (MLe.pre M M2)
theorem MLe.of_eq {M M' : Mem} (h : M = M') : MLe M M' := by rw [h]; exact MLe.refl _
theorem out_tttt {fn : Func} {R : AV → Mem → Prop} {M' : Mem} {t1 t2 t3 t4 : Nat} {v1 v2 v3 v4 v' : AV} (hr : fn.results = #[.tmp t1, .tmp t2, .tmp t3, .tmp t4]) (h1 : al.lookup t1 = some v1) (h2 : al.lookup t2 = some v2) (h3 : al.lookup t3 = some v3) (h4 : al.lookup t4 = some v4) (hl : Le (.tup [v1, v2, v3, v4]) v') (hm : MLe M M') (h : R v' M') : Out P fn R .ret al M :=
  ⟨[v1, v2, v3, v4], v', M', by rw [hr]; exact .cons h1 (.cons h2 (.cons h3 (.cons h4 .nil))), hl, hm, h⟩
/-- a pointer that isn't nil, held against nil -/
theorem eqGuard_p {op : BinOp} {t : TypeId} {x y : Operand} {a : Option Addr} {w : World} : (eqGuard op t x y (.pointer a) (.pointer none)).run P w = .ok () w := by
  unfold eqGuard; split <;> simp
theorem equal_p {t e : TypeId} (ht : P.underlying t = some (.pointer e)) (a : Addr) (w : World) : (Op.equal t (.pointer (some a)) (.pointer none)).run P w = .ok false w := by
  unfold Op.equal
  have : Op.maxDepth = 9999 + 1 := rfl
  rw [this, Op.equalIn]
  simp only [Sem.run_bind, underlying, run_program, Result.andThen_ok, ht, Sem.run_pure]
inductive IsPtr : AV → Prop
  | m (b off : Nat) : IsPtr (.ptr b off)
  | c (cs : List AV) : IsPtr (.cptr cs)
theorem IsPtr.rel {v : AV} (h : IsPtr v) {F : EH} {u : Value} (hr : Rel F v u) : ∃ a, u = .pointer (some a) := by
  cases h <;> cases hr <;> exact ⟨_, rfl⟩
theorem op_pneq {x : Operand} {t t' e : TypeId} {v : AV} (ho : o.op = .binOp .neq t x (.const (.pointer none)) t') (ht : P.underlying t = some (.pointer e)) (hx : al.ev x = some v) (hv : IsPtr v) (q : K (.val (.bool true)) M) : OpT P o al M K :=
  OpT.plain fun n B F Mf ac w hi hs => by
    obtain ⟨a, he⟩ := hv.rel (hs.ev hx)
    refine ⟨.bool true, _, ?_, q, .val _⟩
    have hc : ac.eval (.const (.pointer none)) = .pointer none := rfl
    unfold execOp
    simp only [ho, he, hc, Sem.run_bind, eqGuard_p, Result.andThen_ok, binOp, equal_p ht, Sem.run_pure, Bool.not_false]
theorem op_peql {x : Operand} {t t' e : TypeId} {v : AV} (ho : o.op = .binOp .eql t x (.const (.pointer none)) t') (ht : P.underlying t = some (.pointer e)) (hx : al.ev x = some v) (hv : IsPtr v) (q : K (.val (.bool false)) M) : OpT P o al M K :=
  OpT.plain fun n B F Mf ac w hi hs => by
    obtain ⟨a, he⟩ := hv.rel (hs.ev hx)
    refine ⟨.bool false, _, ?_, q, .val _⟩
    have hc : ac.eval (.const (.pointer none)) = .pointer none := rfl
    unfold execOp
    simp only [ho, he, hc, Sem.run_bind, eqGuard_p, Result.andThen_ok, binOp, equal_p ht, Sem.run_pure]
theorem op_pneqc {x : Operand} {t t' e : TypeId} {v : AV} (ho : o.op = .binOp .neq t x (.const (.pointer none)) t') (ht : P.underlying t = some (.pointer e)) (hx : al.ev x = some v) (hv : IsPtr v) (q : ∀ c : Bool, (c = true ↔ True) → K (.val (.bool c)) M) : OpT P o al M K :=
  op_pneq ho ht hx hv (q true (by simp))
end
end Go.Proofs.Ytecpnlhjjmcllaa
namespace Go.Proofs.Ytecpnlhjjmcllaa
open Go.RowKit
def bldF (size : Nat) : List AV → List (Nat × AV) → Option (List AV)
  | cs, [] => some cs
  | cs, (i, v) :: rest => if v.cells.length = size ∧ i * size + size ≤ cs.length ∧ v.flat = true then bldF size (setL cs (i * size) v.cells) rest else none
theorem bldF_run {F : EH} {size : Nat} : ∀ (ps : List (Nat × AV)) (qs : List (Nat × Value)) (cs : List AV) (vs : List Value) (cs' : List AV), Rels F cs vs → Ones vs → ps.map (·.1) = qs.map (·.1) → Rels F (ps.map (·.2)) (qs.map (·.2)) → bldF size cs ps = some cs' →
    ∃ vs', Instr.fill (fun i => some (i * size, size)) vs.toArray qs = some vs'.toArray ∧ Rels F cs' vs' ∧ Ones vs'
  | [], [], cs, vs, cs', h, h1, _, _, hb => by
    simp [bldF] at hb; subst hb
    exact ⟨vs, by simp [Instr.fill], h, h1⟩
  | [], _ :: _, _, _, _, _, _, h, _, _ => by simp at h
  | _ :: _, [], _, _, _, _, _, h, _, _ => by simp at h
  | (i, v) :: ps, (j, u) :: qs, cs, vs, cs', h, h1, hk, hr, hb => by
    simp only [List.map_cons, List.cons.injEq] at hk
    obtain ⟨rfl, hk⟩ := hk
    simp only [List.map_cons] at hr
    cases hr with
    | cons hr hrs =>
      rw [bldF] at hb
      split at hb
      · rename_i hc
        obtain ⟨c1, c2, c3⟩ := hc
        obtain ⟨k1, k2⟩ := hr.cells c3
        have hlen := h.len
        obtain ⟨vs', q1, q2, q3⟩ := bldF_run ps qs _ (setL vs (i * size) u.cells.toList) cs' (k1.setL (i * size) h) (setL_one _ _ _ k2 h1) hk hrs hb
        refine ⟨vs', ?_, q2, q3⟩
        rw [fill_one _ vs i (i * size) size u qs rfl (by have := k1.len; simp at this; omega) (by omega)]
        exact q1
      · simp at hb
theorem Le.own_less {u : Value} {m : Nat} {as bs : List (List AV)} (h : Less as bs) : Le (.own u m as) (.own u m bs) := fun F x k => by
  cases k with
  | own _ k => exact .own _ (Le.seq h F _ k)
theorem Less.app : ∀ {a b c d : List (List AV)}, Less a b → Less c d → Less (a ++ c) (b ++ d)
  | _, _, _, _, .nil, k => k
  | _, _, _, _, .cons h e hs, k => .cons h e (Less.app hs k)
theorem Le.beq {a b : Bool} (h : a = b) : Le (.val (.bool a)) (.val (.bool b)) := by subst h; exact Le.refl _
theorem Le.ieq {k : IntKind} {a b : Int} (h : a = b) : Le (.val (.int k a)) (.val (.int k b)) := by subst h; exact Le.refl _
section
variable {P : Program} {o : Oper} {al : Sl} {M : Mem} {K : AV → Mem → Prop}
theorem op_build_arr {t e : TypeId} {z : Value} {len size : Nat} {parts : Array (Nat × Operand)} {ns : List Nat} {xs : List Operand} {vs : List AV} {cs' : List AV} (ho : o.op = .build t parts) (hz : tyZero P t = some z) (hzf : (AV.val z).flat = true) (hu : P.underlying t = some (.array len e)) (hs : (P.info? e).map (·.size) = some size) (hp : parts.toList = ns.zip xs) (hlen : ns.length = xs.length) (hx : xs.mapM al.ev = some vs) (hb : bldF size (AV.val z).cells (ns.zip vs) = some cs')
    (q : K (.agg cs') M) : OpT P o al M K :=
  OpT.plain fun n B F Mf a w hi hsl => by
    have hr := Rels.map_ev hsl hx
    have hln := hr.len
    simp only [List.length_map] at hln
    obtain ⟨z1, z2⟩ := (Rel.val (F := F) z).cells hzf
    obtain ⟨vs', q1, q2, q3⟩ := bldF_run (size := size) (ns.zip vs) (ns.zip (xs.map a.eval)) _ _ cs' z1 z2 (by
      rw [List.map_fst_zip (by omega), List.map_fst_zip (by simp; omega)]) (by
      rw [List.map_snd_zip (by omega), List.map_snd_zip (by simp; omega)]; exact hr) hb
    refine ⟨.agg vs'.toArray, _, ?_, q, .agg q2 q3⟩
    have hparts : (parts.map (fun x => (x.1, a.eval x.2))).toList = ns.zip (xs.map a.eval) := by
      rw [Array.toList_map, hp, List.zip_map_right]
      rfl
    obtain ⟨inf, hinf, rfl⟩ := Option.map_eq_some_iff.1 hs
    unfold execOp
    simp only [ho, Instr.build, Sem.run_bind, tyZero_run hz, Result.andThen_ok, run_underlying hu]
    simp only [sizeOf, typeInfo, Sem.run_bind, run_program, Result.andThen_ok, hinf, hparts]
    simp only [Array.toArray_toList] at q1
    simp [q1]
end
end Go.Proofs.Ytecpnlhjjmcllaa
namespace Go.Proofs.Ytecpnlhjjmcllaa
open Go.RowKit
section
variable {P : Program} {o : Oper} {al : Sl} {M : Mem} {K : AV → Mem → Prop}
/-- what a bit operation comes to -/
def bitsOf (op : BinOp) (k : IntKind) (a b : Int) : Int :=
  k.wrap (match op with
    | .and => (BitVec.ofInt k.bits a &&& BitVec.ofInt k.bits b).toNat
    | .or => (BitVec.ofInt k.bits a ||| BitVec.ofInt k.bits b).toNat
    | _ => (BitVec.ofInt k.bits a ^^^ BitVec.ofInt k.bits b).toNat : Nat)
theorem op_bits {x y : Operand} {t t' : TypeId} {k : IntKind} {a b r : Int} {op : BinOp} (hop : op = .and ∨ op = .or ∨ op = .xor) (ho : o.op = .binOp op t x y t') (hx : al.ev x = some (.val (.int k a))) (hy : al.ev y = some (.val (.int k b))) (hr : bitsOf op k a b = r) (q : K (.val (.int k r)) M) : OpT P o al M K :=
  OpT.plain fun n B F Mf ac w hi hs => by
    refine ⟨.int k r, _, ?_, q, .val _⟩
    subst hr
    rcases hop with rfl | rfl | rfl <;> simp [execOp, ho, ev_val hs hx, ev_val hs hy, eqGuard_int, binOp, Op.intBits, bitsOf]
theorem op_shr {x y : Operand} {t t' : TypeId} {k k' : IntKind} {a b r : Int} (ho : o.op = .binOp .shr t x y t') (hx : al.ev x = some (.val (.int k a))) (hy : al.ev y = some (.val (.int k' b))) (hb : 0 ≤ b) (hr : a / 2 ^ min b.toNat k.bits = r) (q : K (.val (.int k r)) M) : OpT P o al M K :=
  OpT.plain fun n B F Mf ac w hi hs => by
    refine ⟨.int k r, _, ?_, q, .val _⟩
    subst hr
    have e : a.fdiv (2 ^ min b.toNat k.bits) = a / 2 ^ min b.toNat k.bits := Int.fdiv_eq_ediv_of_nonneg _ (Int.le_of_lt (Int.pow_pos (by decide)))
    have hb' : ¬ b < 0 := by omega
    simp [execOp, ho, ev_val hs hx, ev_val hs hy, eqGuard_int, binOp, Op.shift, hb', e]
theorem op_shl {x y : Operand} {t t' : TypeId} {k k' : IntKind} {a b r : Int} (ho : o.op = .binOp .shl t x y t') (hx : al.ev x = some (.val (.int k a))) (hy : al.ev y = some (.val (.int k' b))) (hb : 0 ≤ b) (hr : k.wrap (a * 2 ^ min b.toNat k.bits) = r) (q : K (.val (.int k r)) M) : OpT P o al M K :=
  OpT.plain fun n B F Mf ac w hi hs => by
    refine ⟨.int k r, _, ?_, q, .val _⟩
    subst hr
    have hb' : ¬ b < 0 := by omega
    simp [execOp, ho, ev_val hs hx, ev_val hs hy, eqGuard_int, binOp, Op.shift, hb']
end
end Go.Proofs.Ytecpnlhjjmcllaa
