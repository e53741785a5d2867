/- A logic of trees, part 8: regions whose order is drawn, and that write: the operations that write are in one order by the edges; the others stand before the first that they need not follow. -/
import Derived.Test.YtflkdojahfmbnaaAL7
namespace Go.Proofs.Ytflkdojahfmbnaa
open Go.RowKit
/-- the memory that an operation reads: none, or one piece by its place -/
def fpm (M : Mem) : Option Nat → Mem
  | none => []
  | some k => (M[k]?).toList
/-- the region, in an order of our own: ws are the operations that write; L says which pieces were read by whom; anc b: what must come before b -/
def EOps (P : Program) (ops : List Oper) (ws : List Nat) (anc : List (List Nat)) (Q : Sl → Mem → Prop) : List Nat → Sl → Mem → List (Nat × Nat) → Prop
  | [], al, M, _ => Q al M
  | i :: ord, al, M, L => ∃ o, ops[i]? = some o ∧
      if ws.contains i then o.guard = none ∧
        ((∃ k r, M[k]? = some r ∧ (L.all fun x => x.2 != k || (anc.getD i []).contains x.1) = true ∧ OpT P o (al.only (Oper.tmps o)) [r] (fun v M' => ∃ r', M' = [r'] ∧ EOps P ops ws anc Q ord (al.put o.dst v) (M.set k r') L)) ∨
         OpT P o (al.only (Oper.tmps o)) [] (fun v M' => EOps P ops ws anc Q ord (al.put o.dst v) (M ++ M') L) ∨
         ((L.all fun x => (anc.getD i []).contains x.1) = true ∧ OpT P o (al.only (Oper.tmps o)) M (fun v M' => EOps P ops ws anc Q ord (al.put o.dst v) M' [])))
      else ∃ (fp : Option Nat) (v : AV), fp.all (fun k => Nat.blt k M.length) = true ∧ DStep P ops o al (fpm M fp) v ∧ EOps P ops ws anc Q ord (al.put o.dst v) M ((fp.toList.map fun k => (i, k)) ++ L)
/-- a comes before b in ord -/
def befo (ord : List Nat) (a b : Nat) : Bool := (ord.idxOf a) < (ord.idxOf b)
/-- the order is one that the edges allow; what must come before is told rightly; writers are followed only by what must follow them; slots flow -/
def flowE (n : Nat) (l : List Oper) (ord ws : List Nat) (anc : List (List Nat)) : Bool :=
  (ord.length == l.length && (List.range l.length).all (ord.contains ·) && decide ord.Nodup && ord.all (fun i => Nat.blt i l.length)) &&
  (l.zipIdx.all fun (o, i) => o.dst.all (· < n) && (bindsOn o).all (fun j => j < i) &&
    (anc.getD i []).all (fun a => (bindsOn o).contains a || (bindsOn o).any (fun c => (anc.getD c []).contains a))) &&
  (ws.all fun j => (List.range l.length).all fun i => i == j || befo ord i j || (anc.getD i []).contains j) &&
  (l.zipIdx.all fun (o, i) => l.zipIdx.all fun (p, k) => (k == i || o.dst.isNone || o.dst != p.dst) &&
      (match p.dst with
       | some t => !(Oper.sees l o).contains t || k == i || (if befo ord k i then (anc.getD i []).contains k else (anc.getD k []).contains i)
       | none => true))
structure FlowE (n : Nat) (l : List Oper) (ord ws : List Nat) (anc : List (List Nat)) : Prop where
  nodup : ord.Nodup
  mem : ∀ i, i < l.length → i ∈ ord
  lt : ∀ i ∈ ord, i < l.length
  dst : ∀ (i : Nat) (o : Oper), l[i]? = some o → o.dst.all (· < n) = true
  back : ∀ (i : Nat) (o : Oper), l[i]? = some o → ∀ j ∈ bindsOn o, j < i
  ancs : ∀ (i : Nat) (o : Oper), l[i]? = some o → ∀ a ∈ anc.getD i [], a ∈ bindsOn o ∨ ∃ c ∈ bindsOn o, a ∈ anc.getD c []
  wild : ∀ j ∈ ws, ∀ i, i < l.length → i = j ∨ befo ord i j = true ∨ j ∈ anc.getD i []
  once : ∀ (i : Nat) (o : Oper) (k : Nat) (p : Oper) (t : Tmp), l[i]? = some o → l[k]? = some p → o.dst = some t → p.dst = some t → k = i
  see : ∀ (i : Nat) (o : Oper) (k : Nat) (p : Oper) (t : Tmp), l[i]? = some o → l[k]? = some p → p.dst = some t → t ∈ Oper.sees l o → k = i ∨ (befo ord k i = true ∧ k ∈ anc.getD i []) ∨ (befo ord k i = false ∧ i ∈ anc.getD k [])
theorem all_range {n : Nat} {p : Nat → Bool} (h : (List.range n).all p = true) {i : Nat} (hi : i < n) : p i = true := List.all_eq_true.1 h i (by simpa using hi)
theorem FlowE.of {n : Nat} {l : List Oper} {ord ws : List Nat} {anc : List (List Nat)} (h : flowE n l ord ws anc = true) : FlowE n l ord ws anc := by
  unfold flowE at h
  simp only [Bool.and_eq_true] at h
  obtain ⟨⟨⟨⟨⟨⟨_, h2⟩, h3⟩, h7⟩, h4⟩, h5⟩, h6⟩ := h
  have hmem : ∀ i, i < l.length → i ∈ ord := fun i hi => by simpa using all_range h2 hi
  refine ⟨by simpa using h3, hmem, fun i hi => by simpa [Nat.blt_eq] using List.all_eq_true.1 h7 i hi, fun i o ho => ?_, fun i o ho j hj => ?_, fun i o ho a ha => ?_, fun j hj i hi => ?_, fun i o k p t ho hp e1 e2 => ?_, fun i o k p t ho hp e1 e2 => ?_⟩
  · have := zipIdx_all h4 ho
    simp only [Bool.and_eq_true] at this
    exact this.1.1
  · have := zipIdx_all h4 ho
    simp only [Bool.and_eq_true, List.all_eq_true, decide_eq_true_eq] at this
    exact this.1.2 j hj
  · have := zipIdx_all h4 ho
    simp only [Bool.and_eq_true, List.all_eq_true] at this
    have := this.2 a ha
    simp only [Bool.or_eq_true, List.contains_iff_mem, List.any_eq_true] at this
    exact this
  · have := all_range (List.all_eq_true.1 h5 j hj) hi
    simp only [Bool.or_eq_true, beq_iff_eq, List.contains_iff_mem] at this
    rcases this with (q | q) | q
    · exact Or.inl q
    · exact Or.inr (Or.inl q)
    · exact Or.inr (Or.inr q)
  · have := zipIdx_all (zipIdx_all h6 ho) hp
    simp only [Bool.and_eq_true, Bool.or_eq_true, beq_iff_eq] at this
    rcases this.1 with (q | q) | q
    · exact q
    · simp [e1] at q
    · simp [e1, e2] at q
  · have := (Bool.and_eq_true _ _ ▸ zipIdx_all (zipIdx_all h6 ho) hp).2
    simp only [e1, Bool.or_eq_true, beq_iff_eq, Bool.not_eq_true'] at this
    rcases this with (q | q) | q
    · simp [e2] at q
    · exact Or.inl q
    · split at q
      · rename_i hb; exact Or.inr (Or.inl ⟨hb, by simpa using q⟩)
      · rename_i hb
        by_cases e : k = i
        · exact Or.inl e
        · exact Or.inr (Or.inr ⟨by simpa using hb, by simpa using q⟩)
/-- the slots behind operations, by their numbers -/
def putsI (l : List Oper) (pv : Nat → AV) : List Nat → Sl → Sl
  | [], al => al
  | k :: ks, al => putsI l pv ks (al.put ((l[k]?).bind (·.dst)) (pv k))
theorem putsI_app (l : List Oper) (pv : Nat → AV) : ∀ (a b : List Nat) (al : Sl), putsI l pv (a ++ b) al = putsI l pv b (putsI l pv a al)
  | [], b, al => rfl
  | k :: a, b, al => by rw [List.cons_append, putsI, putsI]; exact putsI_app l pv a b _
theorem putsI_congr (l : List Oper) (pv pv' : Nat → AV) : ∀ (ks : List Nat) (al : Sl), (∀ k ∈ ks, pv k = pv' k) → putsI l pv ks al = putsI l pv' ks al
  | [], al, _ => rfl
  | k :: ks, al, h => by rw [putsI, putsI, h k (by simp)]; exact putsI_congr l pv pv' ks _ (fun x hx => h x (by simp [hx]))
theorem putsI_lookup (l : List Oper) (pv : Nat → AV) : ∀ (ks : List Nat) (al : Sl) (t : Tmp), (∃ k o, k ∈ ks ∧ l[k]? = some o ∧ o.dst = some t ∧ (putsI l pv ks al).lookup t = some (pv k)) ∨ ((∀ k o, k ∈ ks → l[k]? = some o → o.dst ≠ some t) ∧ (putsI l pv ks al).lookup t = al.lookup t)
  | [], al, t => Or.inr ⟨by simp, rfl⟩
  | k :: ks, al, t => by
    rw [putsI]
    rcases putsI_lookup l pv ks (al.put ((l[k]?).bind (·.dst)) (pv k)) t with ⟨j, o, h1, h2, h3, h4⟩ | ⟨h1, h2⟩
    · exact Or.inl ⟨j, o, by simp [h1], h2, h3, h4⟩
    · by_cases e : (l[k]?).bind (·.dst) = some t
      · obtain ⟨o, ho, hd⟩ := Option.bind_eq_some_iff.1 e
        refine Or.inl ⟨k, o, by simp, ho, hd, ?_⟩
        rw [h2, e]; simp [Sl.put]
      · refine Or.inr ⟨fun j o hj ho hd => ?_, ?_⟩
        · rcases List.mem_cons.1 hj with rfl | hj
          · exact e (by rw [ho]; exact hd)
          · exact h1 j o hj ho hd
        · rw [h2]
          cases hd : (l[k]?).bind (·.dst) with
          | none => rfl
          | some d =>
            have : (t == d) = false := by
              have : t ≠ d := fun q => e (by rw [hd, q])
              simpa using this
            simp [Sl.put, List.lookup_cons, this]
theorem befo_split {ord a b : List Nat} {i k : Nat} (hn : ord.Nodup) (he : ord = a ++ i :: b) : (k ∈ a → befo ord k i = true) ∧ (k ∈ b → befo ord k i = false) := by
  subst he
  rw [List.nodup_append] at hn
  obtain ⟨h1, h2, h3⟩ := hn
  have hia : i ∉ a := fun h => h3 i h i (by simp) rfl
  have ei : (a ++ i :: b).idxOf i = a.length := by rw [List.idxOf_append]; simp [hia]
  constructor
  · intro hk
    have : (a ++ i :: b).idxOf k = a.idxOf k := by rw [List.idxOf_append, if_pos hk]
    unfold befo
    rw [ei, this]
    simpa using List.idxOf_lt_length_iff.2 hk
  · intro hk
    have hka : k ∉ a := fun h => h3 k h k (by simp [hk]) rfl
    have : (a ++ i :: b).idxOf k = (i :: b).idxOf k + a.length := by rw [List.idxOf_append, if_neg hka]
    unfold befo
    rw [ei, this]
    simp
section
variable {P : Program} {n : Nat} {l : List Oper} {ord ws : List Nat} {anc : List (List Nat)} {QQ : Sl → Mem → Prop} {al : Sl}
/-- where a run stands -/
structure AtE (P : Program) (n B : Nat) (F : EH) (Mf : Mem) (w0 : World) (ds : List Deferred) (l : List Oper) (ord ws : List Nat) (anc : List (List Nat)) (QQ : Sl → Mem → Prop) (al : Sl) (lis : Array Bool) (a : Act) (w : World) (pr rest : List Nat) (pv : Nat → AV) (M : Mem) (L : List (Nat × Nat)) : Prop where
  size : lis.size = l.length
  closed : ∀ (k : Nat) (o : Oper), l[k]? = some o → lis[k]? = some true → ∀ j ∈ bindsOn o, lis[j]? = some true
  defers : a.defers = ds
  tmps : a.tmps.size = n
  ord : ord = pr ++ rest
  done : ∀ k, lis[k]? = some true → k ∈ pr
  wild : ∀ k ∈ pr, k ∈ ws → lis[k]? = some true
  next : rest = [] ∨ ∃ j rest', rest = j :: rest' ∧ j ∈ ws
  eops : EOps P l ws anc QQ rest (putsI l pv pr al) M L
  lenL : ∀ x ∈ L, x.2 < M.length
  steps : ∀ p1 i p2, pr = p1 ++ i :: p2 → i ∉ ws → lis[i]? = some false → ∃ o fp, l[i]? = some o ∧ (∀ p, fp = some p → (i, p) ∈ L) ∧ DStep P l o (putsI l pv p1 al) (fpm M fp) (pv i)
  mem : ∃ F', Ext F F' ∧ Inv B F' (M ++ Mf) w ∧ Below B w0 w ∧
    (∀ t v, al.lookup t = some v → (∀ (j : Nat) (o : Oper), l[j]? = some o → o.dst = some t → lis[j]? = some false) → t < n ∧ Rel F' v (a.tmps.getD t undef)) ∧
    (∀ (j : Nat) (o : Oper) (t : Tmp), l[j]? = some o → o.dst = some t → lis[j]? = some true → t < n ∧ Rel F' (pv j) (a.tmps.getD t undef))
theorem closed_anc (hfl : FlowE n l ord ws anc) {lis : Array Bool} (hc : ∀ (k : Nat) (o : Oper), l[k]? = some o → lis[k]? = some true → ∀ j ∈ bindsOn o, lis[j]? = some true) : ∀ (i : Nat) (o : Oper), l[i]? = some o → (∀ j ∈ bindsOn o, lis[j]? = some true) → ∀ a ∈ anc.getD i [], lis[a]? = some true := by
  intro i
  induction i using Nat.strongRecOn with
  | _ i ih =>
    intro o ho hb a ha
    rcases hfl.ancs i o ho a ha with q | ⟨c, hc1, hc2⟩
    · exact hb a q
    · have hci := hfl.back i o ho c hc1
      have hil : i < l.length := by
        rcases Nat.lt_or_ge i l.length with k | k
        · exact k
        · rw [List.getElem?_eq_none k] at ho; simp at ho
      have hcl : l[c]? = some l[c] := List.getElem?_eq_getElem (by omega)
      exact ih c hci l[c] hcl (hc c l[c] hcl (hb c hc1)) a hc2
/-- go through what does not write, up to the next that does -/
theorem advance (hnd : ord.Nodup) (M : Mem) (lis : Array Bool) : ∀ (rest pr : List Nat) (pv : Nat → AV) (L : List (Nat × Nat)), ord = pr ++ rest → EOps P l ws anc QQ rest (putsI l pv pr al) M L → (∀ x ∈ L, x.2 < M.length) →
    (∀ p1 i p2, pr = p1 ++ i :: p2 → i ∉ ws → lis[i]? = some false → ∃ o fp, l[i]? = some o ∧ (∀ p, fp = some p → (i, p) ∈ L) ∧ DStep P l o (putsI l pv p1 al) (fpm M fp) (pv i)) →
    ∃ pr' rest' pv' L', ord = pr' ++ rest' ∧ (rest' = [] ∨ ∃ j r, rest' = j :: r ∧ j ∈ ws) ∧ EOps P l ws anc QQ rest' (putsI l pv' pr' al) M L' ∧ (∀ x ∈ L', x.2 < M.length) ∧ (∀ k ∈ pr, k ∈ pr') ∧ (∀ k ∈ pr', k ∈ ws → k ∈ pr) ∧ (∀ k ∈ pr, pv' k = pv k) ∧
      (∀ p1 i p2, pr' = p1 ++ i :: p2 → i ∉ ws → lis[i]? = some false → ∃ o fp, l[i]? = some o ∧ (∀ p, fp = some p → (i, p) ∈ L') ∧ DStep P l o (putsI l pv' p1 al) (fpm M fp) (pv' i)) := by
  intro rest
  induction rest with
  | nil => intro pr pv L ho he hlL hs; exact ⟨pr, [], pv, L, ho, Or.inl rfl, he, hlL, fun k h => h, fun k h _ => h, fun _ _ => rfl, hs⟩
  | cons i rest ih =>
    intro pr pv L ho he hlL hs
    by_cases hw : i ∈ ws
    · exact ⟨pr, i :: rest, pv, L, ho, Or.inr ⟨i, rest, rfl, hw⟩, he, hlL, fun k h => h, fun k h _ => h, fun _ _ => rfl, hs⟩
    · obtain ⟨o, ho', he⟩ := he
      rw [if_neg (by simpa using hw)] at he
      obtain ⟨fp, v, h0, h1, h2⟩ := he
      have hip : i ∉ pr := by
        intro h
        rw [ho, List.nodup_append] at hnd
        exact hnd.2.2 i h i (by simp) rfl
      let pv' : Nat → AV := fun x => if x = i then v else pv x
      have hpv : ∀ k ∈ pr, pv' k = pv k := fun k hk => if_neg (fun e => hip (by rw [← e]; exact hk))
      have hpi : pv' i = v := if_pos rfl
      have heq : putsI l pv' pr al = putsI l pv pr al := putsI_congr l pv' pv pr al hpv
      obtain ⟨pr2, rest2, pv2, L2, q1, q2, q3, q0, q4, q5, q6, q7⟩ := ih (pr ++ [i]) pv' ((fp.toList.map fun k => (i, k)) ++ L) (by rw [ho]; simp) (by
        rw [putsI_app, heq]
        simp only [putsI, ho', Option.bind_some, hpi]
        exact h2) (by
        intro x hx
        rcases List.mem_append.1 hx with hx | hx
        · cases fp with
          | none => simp at hx
          | some k =>
            simp at hx
            subst hx
            simpa [Nat.blt_eq] using h0
        · exact hlL x hx) (by
        intro p1 j p2 hsp hj hl
        rcases List.eq_nil_or_concat p2 with rfl | ⟨p2', y, rfl⟩
        · have e2 : pr = p1 ∧ i = j := by
            have := List.append_inj' hsp rfl
            exact ⟨this.1, by simpa using this.2⟩
          obtain ⟨rfl, rfl⟩ := e2
          exact ⟨o, fp, ho', fun p hp => by subst hp; simp, by rw [heq, hpi]; exact h1⟩
        · have e2 : pr = p1 ++ j :: p2' ∧ i = y := by
            rw [List.concat_eq_append, show p1 ++ j :: (p2' ++ [y]) = (p1 ++ j :: p2') ++ [y] from by simp] at hsp
            have := List.append_inj' hsp rfl
            exact ⟨this.1, by simpa using this.2⟩
          obtain ⟨e3, _⟩ := e2
          obtain ⟨o', fp', k1, k2, k3⟩ := hs p1 j p2' e3 hj hl
          refine ⟨o', fp', k1, fun p hp => List.mem_append_right _ (k2 p hp), ?_⟩
          rw [putsI_congr l pv' pv p1 al (fun k hk => hpv k (by rw [e3]; simp [hk])), hpv j (by rw [e3]; simp)]
          exact k3)
      exact ⟨pr2, rest2, pv2, L2, q1, q2, q3, q0, fun k hk => q4 k (by simp [hk]), fun k hk hkw => by
        rcases List.mem_append.1 (q5 k hk hkw) with h | h
        · exact h
        · simp at h; subst h; exact absurd hkw hw, fun k hk => (q6 k (by simp [hk])).trans (hpv k hk), q7⟩
/-- what operation i sees -/
theorem AtE.sees {ds : List Deferred} {B : Nat} {F : EH} {Mf : Mem} {w0 : World} {lis : Array Bool} {a : Act} {w : World} {pr rest : List Nat} {pv : Nat → AV} {M : Mem} {L : List (Nat × Nat)} (hfl : FlowE n l ord ws anc) (h : AtE P n B F Mf w0 ds l ord ws anc QQ al lis a w pr rest pv M L) {F' : EH}
    (h4 : ∀ t v, al.lookup t = some v → (∀ (j : Nat) (o : Oper), l[j]? = some o → o.dst = some t → lis[j]? = some false) → t < n ∧ Rel F' v (a.tmps.getD t undef))
    (h5 : ∀ (j : Nat) (o : Oper) (t : Tmp), l[j]? = some o → o.dst = some t → lis[j]? = some true → t < n ∧ Rel F' (pv j) (a.tmps.getD t undef))
    {i : Nat} {o : Oper} (ho : l[i]? = some o) (hni : lis[i]? = some false) (hrd : ∀ j ∈ bindsOn o, lis[j]? = some true) {p1 p2 : List Nat} (hsp : ord = p1 ++ i :: p2) :
    ∀ t ∈ Oper.sees l o, ∀ v, (putsI l pv p1 al).lookup t = some v → t < n ∧ Rel F' v (a.tmps.getD t undef) := by
  intro t ht v hv
  have hanc := closed_anc hfl h.closed i o ho hrd
  rcases putsI_lookup l pv p1 al t with ⟨j, p, k1, k2, k3, k4⟩ | ⟨k1, k2⟩
  · rw [k4] at hv
    simp at hv
    subst hv
    have hb := (befo_split hfl.nodup hsp (k := j)).1 k1
    rcases hfl.see i o j p t ho k2 k3 ht with q | q | q
    · subst q; exfalso
      have := hfl.nodup
      rw [hsp, List.nodup_append] at this
      exact this.2.2 j k1 j (by simp) rfl
    · exact h5 j p t k2 k3 (hanc j q.2)
    · rw [hb] at q; simp at q
  · rw [k2] at hv
    refine h4 t v hv (fun j p hj hd => ?_)
    have hjl : j < lis.size := by
      rw [h.size]
      rcases Nat.lt_or_ge j l.length with q | q
      · exact q
      · rw [List.getElem?_eq_none q] at hj; simp at hj
    rcases hfl.see i o j p t ho hj hd ht with q | q | q
    · subst q; exact hni
    · exfalso
      have hjo := hfl.mem j (by rw [← h.size]; exact hjl)
      rw [hsp] at hjo
      rcases List.mem_append.1 hjo with r | r
      · exact k1 j p r hj hd
      · rcases List.mem_cons.1 r with r | r
        · subst r; rw [befo] at q; simp at q
        · have := (befo_split hfl.nodup hsp (k := j)).2 r
          rw [this] at q; simp at q
    · rcases lis_ft hjl with r | r
      · have := closed_anc hfl h.closed j p hj (h.closed j p hj r) i q.2
        rw [hni] at this; simp at this
      · exact r
theorem set_lis {lis : Array Bool} {i : Nat} (hni : lis[i]? = some false) (k : Nat) : (lis.setIfInBounds i true)[k]? = if i = k then some true else lis[k]? := by
  have hil : i < lis.size := by
    rcases Nat.lt_or_ge i lis.size with q | q
    · exact q
    · rw [Array.getElem?_eq_none q] at hni; simp at hni
  rw [Array.getElem?_setIfInBounds]
  by_cases e : i = k
  · subst e; simp [hil]
  · simp [e]
/-- slots behind one more operation -/
theorem slots_next (hfl : FlowE n l ord ws anc) {lis : Array Bool} {a : Act} {F1 F2 : EH} {i : Nat} {o : Oper} {pv pv' : Nat → AV} {u : Value} (ho : l[i]? = some o) (hni : lis[i]? = some false) (htm : a.tmps.size = n) (hF2 : Ext F1 F2) (hr : Rel F2 (pv' i) u) (hpv : ∀ k, lis[k]? = some true → pv' k = pv k)
    (h4 : ∀ t v, al.lookup t = some v → (∀ (j : Nat) (o : Oper), l[j]? = some o → o.dst = some t → lis[j]? = some false) → t < n ∧ Rel F1 v (a.tmps.getD t undef))
    (h5 : ∀ (j : Nat) (o : Oper) (t : Tmp), l[j]? = some o → o.dst = some t → lis[j]? = some true → t < n ∧ Rel F1 (pv j) (a.tmps.getD t undef)) :
    (∀ t v, al.lookup t = some v → (∀ (j : Nat) (o : Oper), l[j]? = some o → o.dst = some t → (lis.setIfInBounds i true)[j]? = some false) → t < n ∧ Rel F2 v ((a.put o.dst u).tmps.getD t undef)) ∧
    (∀ (j : Nat) (o' : Oper) (t : Tmp), l[j]? = some o' → o'.dst = some t → (lis.setIfInBounds i true)[j]? = some true → t < n ∧ Rel F2 (pv' j) ((a.put o.dst u).tmps.getD t undef)) := by
  have hdst := hfl.dst i o ho
  have hget : ∀ t, o.dst ≠ some t → (a.put o.dst u).tmps.getD t undef = a.tmps.getD t undef := by
    intro t ht
    cases hd : o.dst with
    | none => rfl
    | some d =>
      simp only [Act.put, Array.getD_eq_getD_getElem?, Array.getElem?_setIfInBounds]
      rw [if_neg (fun e => ht (by rw [hd, e]))]
  constructor
  · intro t v ht hno
    have hne : o.dst ≠ some t := by
      intro q
      have := hno i o ho q
      rw [set_lis hni, if_pos rfl] at this; simp at this
    rw [hget t hne]
    obtain ⟨q1, q2⟩ := h4 t v ht (fun j p hj hd => by
      have := hno j p hj hd
      rw [set_lis hni] at this
      split at this
      · simp at this
      · exact this)
    exact ⟨q1, q2.mono hF2⟩
  · intro j p t hj hd hlj
    by_cases e : i = j
    · subst e
      rw [ho] at hj; simp at hj; subst hj
      rw [hd] at hdst ⊢
      simp at hdst
      refine ⟨hdst, ?_⟩
      have : t < a.tmps.size := by rw [htm]; exact hdst
      simpa [Act.put, Array.getD, this] using hr
    · rw [set_lis hni, if_neg e] at hlj
      have hne : o.dst ≠ some t := by
        intro q
        exact e (hfl.once j p i o t hj ho hd q)
      rw [hget t hne, hpv j hlj]
      obtain ⟨q1, q2⟩ := h5 j p t hj hd hlj
      exact ⟨q1, q2.mono hF2⟩
theorem region_flowE {ro : Option Nat} {ds : List Deferred} {B : Nat} {F : EH} {Mf : Mem} {w0 : World} {Q : Exit → Act → World → Prop} (hfl : FlowE n l ord ws anc)
    (hend : ∀ a w pr pv M L, AtE P n B F Mf w0 ds l ord ws anc QQ al (Array.replicate l.length true) a w pr [] pv M L → Q .normal a w) :
    ∀ (fuel : Nat) (lis : Array Bool) (a : Act) (w : World) (pr rest : List Nat) (pv : Nat → AV) (M : Mem) (L : List (Nat × Nat)), ((List.range l.length).filter (fun j => !(lis[j]? == some true))).length ≤ fuel → AtE P n B F Mf w0 ds l ord ws anc QQ al lis a w pr rest pv M L → wpAnyIn (RF ro) 0 P .any l.toArray Q fuel lis a w := by
  have alltrue : ∀ (lis : Array Bool) (a : Act) (w : World) (pr rest : List Nat) (pv : Nat → AV) (M : Mem) (L : List (Nat × Nat)), AtE P n B F Mf w0 ds l ord ws anc QQ al lis a w pr rest pv M L → Region.ready .any l.toArray lis = [] → Q .normal a w := by
    intro lis a w pr rest pv M L h hrd
    have hall : ∀ i, i < l.length → lis[i]? = some true := by
      intro i
      induction i using Nat.strongRecOn with
      | _ i ih =>
        intro hil
        rcases lis_ft (lis := lis) (j := i) (by rw [h.size]; exact hil) with q | q
        · exact q
        · exfalso
          have : i ∈ Region.ready .any l.toArray lis := (ready_iff h.size).2 ⟨l[i], List.getElem?_eq_getElem hil, q, fun j hj => by
            have := hfl.back i l[i] (List.getElem?_eq_getElem hil) j hj
            exact ih j this (by omega)⟩
          rw [hrd] at this; simp at this
    have e : lis = Array.replicate l.length true := by
      apply Array.ext (by simpa using h.size)
      intro i h1 h2
      have := hall i (by rw [← h.size]; exact h1)
      rw [Array.getElem?_eq_getElem h1] at this
      simpa using this
    have hre : rest = [] := by
      rcases h.next with q | ⟨j, r, q, _⟩
      · exact q
      · exfalso
        have hj : j ∈ ord := by rw [h.ord, q]; simp
        have hjp := h.done j (hall j (hfl.lt j hj))
        have := hfl.nodup
        rw [h.ord, q, List.nodup_append] at this
        exact this.2.2 j hjp j (by simp) rfl
    subst hre
    rw [e] at h
    exact hend a w pr pv M L h
  intro fuel
  induction fuel with
  | zero =>
    intro lis a w pr rest pv M L hf h
    have hr : Region.ready .any l.toArray lis = [] := by
      cases hr : Region.ready .any l.toArray lis with
      | nil => rfl
      | cons i r =>
        exfalso
        obtain ⟨o, ho, h1, _⟩ := (ready_iff h.size).1 (by rw [hr]; simp : i ∈ Region.ready .any l.toArray lis)
        have hil : i < l.length := by
          rcases Nat.lt_or_ge i l.length with q | q
          · exact q
          · rw [List.getElem?_eq_none q] at ho; simp at ho
        have : i ∈ (List.range l.length).filter (fun j => !(lis[j]? == some true)) := List.mem_filter.2 ⟨by simpa using hil, by simp [h1]⟩
        have := List.length_pos_of_mem this
        omega
    exact ⟨hr, alltrue lis a w pr rest pv M L h hr⟩
  | succ fuel ih =>
    intro lis a w pr rest pv M L hf h
    refine ⟨alltrue lis a w pr rest pv M L h, fun i hi => ?_⟩
    obtain ⟨o, ho, hni, hrd⟩ := (ready_iff h.size).1 hi
    have hil : i < l.length := by
      rcases Nat.lt_or_ge i l.length with q | q
      · exact q
      · rw [List.getElem?_eq_none q] at ho; simp at ho
    have hcount : ((List.range l.length).filter (fun j => !((lis.setIfInBounds i true)[j]? == some true))).length ≤ fuel := by
      have h1 := count_set l.length (fun j => lis[j]? == some true) i hil (by simp [hni])
      have h2 : (List.range l.length).filter (fun j => !((lis.setIfInBounds i true)[j]? == some true)) = (List.range l.length).filter (fun j => !((lis[j]? == some true) || j == i)) := by
        apply List.filter_congr
        intro j hj
        rw [set_lis hni]
        by_cases e : i = j
        · subst e
          rw [if_pos rfl]; simp
        · rw [if_neg e]
          have : (j == i) = false := by simp; omega
          simp [this]
      rw [h2]
      omega
    have hanc := closed_anc hfl h.closed i o ho hrd
    obtain ⟨F0, m1, m2, m3, m4, m5⟩ := h.mem
    have hclosed : ∀ (k : Nat) (o' : Oper), l[k]? = some o' → (lis.setIfInBounds i true)[k]? = some true → ∀ j ∈ bindsOn o', (lis.setIfInBounds i true)[j]? = some true := by
      intro k p hk hlk j hj
      rw [set_lis hni] at hlk ⊢
      by_cases e : i = k
      · subst e
        rw [ho] at hk; simp at hk; subst hk
        rw [hrd j hj]; split <;> rfl
      · rw [if_neg e] at hlk
        rw [h.closed k p hk hlk j hj]; split <;> rfl
    have hone : ∀ k : Nat, (lis.setIfInBounds i true)[k]? = some false → lis[k]? = some false := by
      intro k hk
      rw [set_lis hni] at hk
      split at hk
      · simp at hk
      · exact hk
    have hio : i ∈ ord := hfl.mem i hil
    by_cases hiw : i ∈ ws
    · -- an operation that writes: it is the next
      have hrest : ∃ rest', rest = i :: rest' := by
        rcases h.next with q | ⟨j, r, q, hjw⟩
        · exfalso
          subst q
          have : i ∈ pr := by have := h.ord; simp at this; rw [← this]; exact hio
          have := h.wild i this hiw
          rw [hni] at this; simp at this
        · by_cases e : j = i
          · subst e; exact ⟨r, q⟩
          · exfalso
            have hjl : j < l.length := hfl.lt j (by rw [h.ord, q]; simp)
            have hsp : ord = pr ++ j :: r := by rw [h.ord, q]
            have hir : i ∈ r := by
              have := hio
              rw [hsp] at this
              rcases List.mem_append.1 this with k | k
              · have := h.wild i k hiw
                rw [hni] at this; simp at this
              · rcases List.mem_cons.1 k with k | k
                · exact absurd k.symm e
                · exact k
            have hb := (befo_split hfl.nodup hsp (k := i)).2 hir
            rcases hfl.wild j hjw i hil with k | k | k
            · exact e k.symm
            · rw [hb] at k; simp at k
            · have := hanc j k
              have := h.done j this
              have hnd := hfl.nodup
              rw [hsp, List.nodup_append] at hnd
              exact hnd.2.2 j this j (by simp) rfl
      obtain ⟨rest', rfl⟩ := hrest
      obtain ⟨o', ho', he⟩ := h.eops
      rw [ho] at ho'; simp at ho'; subst ho'
      rw [if_pos (by simpa using hiw)] at he
      obtain ⟨hg, he⟩ := he
      have hsp : ord = pr ++ i :: rest' := h.ord
      have hsees := h.sees hfl m4 m5 ho hni hrd hsp
      have hslots : Slots n F0 ((putsI l pv pr al).only (Oper.tmps o)) a.tmps := by
        refine ⟨h.tmps, fun t v' e => ?_⟩
        rw [only_lookup] at e
        split at e
        · rename_i hc
          exact hsees t (by unfold Oper.sees; exact List.mem_append_left _ (by simpa using hc)) v' e
        · simp at e
      have hip : i ∉ pr := by
        intro hh
        have := hfl.nodup
        rw [hsp, List.nodup_append] at this
        exact this.2.2 i hh i (by simp) rfl
      have fin : ∀ (u : Value) (v : AV) (F2 : EH) (w' : World) (M2 : Mem), Rel F2 v u → Ext F0 F2 → Inv B F2 (M2 ++ Mf) w' → Below B w w' → ∀ L' : List (Nat × Nat), EOps P l ws anc QQ rest' ((putsI l pv pr al).put o.dst v) M2 L' → (∀ x ∈ L', x.2 < M2.length) →
          (∀ i' fp, lis[i']? = some false → (∀ p, fp = some p → (i', p) ∈ L) → (fpm M2 fp = fpm M fp ∧ ∀ p, fp = some p → (i', p) ∈ L') ∨ i' ∈ anc.getD i []) →
          wpAnyIn (RF ro) 0 P .any l.toArray Q fuel (lis.setIfInBounds i true) (a.put o.dst u) w' := by
        intro u v F2 w' M2 hr hF2 hi2 hb2 L' heo hml hkeep
        let pv' : Nat → AV := fun x => if x = i then v else pv x
        have hpv : ∀ k ∈ pr, pv' k = pv k := fun k hk => if_neg (fun e => hip (by rw [← e]; exact hk))
        have hpi : pv' i = v := if_pos rfl
        have heq : putsI l pv' pr al = putsI l pv pr al := putsI_congr l pv' pv pr al hpv
        obtain ⟨pr2, rest2, pv2, L2, q1, q2, q3, q0, q4, q5, q6, q7⟩ := advance (P := P) (QQ := QQ) (al := al) (anc := anc) hfl.nodup M2 (lis.setIfInBounds i true) rest' (pr ++ [i]) pv' L' (by rw [hsp]; simp) (by
          rw [putsI_app, heq]
          simp only [putsI, ho, Option.bind_some, hpi]
          exact heo) hml (by
          intro p1 j p2 hspj hj hl
          have hl' := hone j hl
          rcases List.eq_nil_or_concat p2 with rfl | ⟨p2', y, rfl⟩
          · have e2 : pr = p1 ∧ i = j := by
              have := List.append_inj' hspj rfl
              exact ⟨this.1, by simpa using this.2⟩
            obtain ⟨rfl, rfl⟩ := e2
            exact absurd hiw hj
          · have e3 : pr = p1 ++ j :: p2' := by
              rw [List.concat_eq_append, show p1 ++ j :: (p2' ++ [y]) = (p1 ++ j :: p2') ++ [y] from by simp] at hspj
              exact (List.append_inj' hspj rfl).1
            obtain ⟨oj, fp, k1, k2, k3⟩ := h.steps p1 j p2' e3 hj hl'
            rcases hkeep j fp hl' k2 with r | r
            · refine ⟨oj, fp, k1, r.2, ?_⟩
              rw [putsI_congr l pv' pv p1 al (fun k hk => hpv k (by rw [e3]; simp [hk])), hpv j (by rw [e3]; simp)]
              rw [r.1]; exact k3
            · have := hanc j r
              rw [hl'] at this; simp at this)
        have hpvl : ∀ k, lis[k]? = some true → pv2 k = pv k := fun k hk => by
          have := h.done k hk
          rw [q6 k (by simp [this]), hpv k this]
        have hpv2i : pv2 i = v := by rw [q6 i (by simp), hpi]
        obtain ⟨s1, s2⟩ := slots_next (al := al) hfl ho hni h.tmps hF2 (pv := pv) (pv' := pv2) (by rw [hpv2i]; exact hr) hpvl m4 m5
        refine ih _ _ _ pr2 rest2 pv2 M2 L2 hcount ⟨by simpa using h.size, hclosed, by cases o.dst <;> exact h.defers, by cases o.dst <;> simp [Act.put, h.tmps], q1, fun k hk => ?_, fun k hk hkw => ?_, q2, q3, q0, q7, F2, m1.trans hF2, hi2, m3.trans hb2, s1, s2⟩
        · rw [set_lis hni] at hk
          split at hk
          · rename_i e; subst e; exact q4 _ (by simp)
          · exact q4 k (by simp [h.done k hk])
        · rw [set_lis hni]
          have := q5 k hk hkw
          rcases List.mem_append.1 this with r | r
          · rw [h.wild k r hkw]; split <;> rfl
          · simp at r; rw [if_pos r.symm]
      unfold wpOpIn
      simp only [List.getElem?_toArray, ho]
      rw [if_pos (by simp [Region.wanted, hg])]
      rcases he with ⟨k, r, hk, hL, hop⟩ | hop | ⟨hL, hop⟩
      · have hperm : (M ++ Mf).Perm ([r] ++ (M.eraseIdx k ++ Mf)) := by
          have := (perm_at hk).append_right Mf
          simpa using this
        have hkl : k < M.length := by
          rcases Nat.lt_or_ge k M.length with q | q
          · exact q
          · rw [List.getElem?_eq_none q] at hk; simp at hk
        refine wp_exits (Oper.wpIn_mono ?_ (hop n B F0 (M.eraseIdx k ++ Mf) a w (m2.perm hperm) hslots ro))
        rintro a' w' ⟨u, v, M', F2, rfl, ⟨r', rfl, heo⟩, hr, hF2, hi2, hb2⟩
        refine fin u v F2 w' (M.set k r') hr hF2 (hi2.perm ?_) hb2 L heo (by simpa using h.lenL) (fun i' fp hl' hfp => ?_)
        · have := ((perm_set r' hkl).append_right Mf).symm
          simpa using this
        · cases fp with
          | none => exact Or.inl ⟨rfl, hfp⟩
          | some p =>
            by_cases e : p = k
            · right
              have := List.all_eq_true.1 hL (i', p) (hfp p rfl)
              simpa [e] using this
            · left
              refine ⟨?_, hfp⟩
              simp only [fpm]
              rw [List.getElem?_set_ne (fun q => e q.symm)]
      · refine wp_exits (Oper.wpIn_mono ?_ (hop n B F0 (M ++ Mf) a w (by simpa using m2) hslots ro))
        rintro a' w' ⟨u, v, M', F2, rfl, heo, hr, hF2, hi2, hb2⟩
        refine fin u v F2 w' (M ++ M') hr hF2 (hi2.perm ?_) hb2 L heo (fun x hx => by have := h.lenL x hx; simp; omega) (fun i' fp hl' hfp => ?_)
        · rw [List.append_assoc]
          exact (List.perm_append_comm_assoc _ _ _)
        · left
          refine ⟨?_, hfp⟩
          cases fp with
          | none => rfl
          | some p =>
            simp only [fpm]
            rw [List.getElem?_append_left (h.lenL (i', p) (hfp p rfl))]
      · refine wp_exits (Oper.wpIn_mono ?_ (hop n B F0 Mf a w m2 hslots ro))
        rintro a' w' ⟨u, v, M', F2, rfl, heo, hr, hF2, hi2, hb2⟩
        refine fin u v F2 w' M' hr hF2 hi2 hb2 [] heo (by simp) (fun i' fp hl' hfp => ?_)
        cases fp with
        | none => exact Or.inl ⟨rfl, by simp⟩
        | some p =>
          right
          have := List.all_eq_true.1 hL (i', p) (hfp p rfl)
          simpa using this
    · -- an operation that does not write: it has been gone through
      have hipr : i ∈ pr := by
        have := hio
        rw [h.ord] at this
        rcases List.mem_append.1 this with k | k
        · exact k
        · exfalso
          rcases h.next with q | ⟨j, r, q, hjw⟩
          · rw [q] at k; simp at k
          · have hsp : ord = pr ++ j :: r := by rw [h.ord, q]
            rw [q] at k
            rcases List.mem_cons.1 k with e | e
            · subst e; exact hiw hjw
            · have hb := (befo_split hfl.nodup hsp (k := i)).2 e
              rcases hfl.wild j hjw i hil with k | k | k
              · subst k; exact hiw hjw
              · rw [hb] at k; simp at k
              · have := h.done j (hanc j k)
                have hnd := hfl.nodup
                rw [hsp, List.nodup_append] at hnd
                exact hnd.2.2 j this j (by simp) rfl
      obtain ⟨p1, p2, hp⟩ := List.append_of_mem hipr
      obtain ⟨o', fp, ho', hfp, hst⟩ := h.steps p1 i p2 hp hiw hni
      rw [ho] at ho'; simp at ho'; subst ho'
      have hsp : ord = p1 ++ i :: (p2 ++ rest) := by rw [h.ord, hp]; simp
      have hsees := h.sees hfl m4 m5 ho hni hrd hsp
      have hslots : Slots n F0 ((putsI l pv p1 al).only (Oper.tmps o)) a.tmps := by
        refine ⟨h.tmps, fun t v' e => ?_⟩
        rw [only_lookup] at e
        split at e
        · rename_i hc
          exact hsees t (by unfold Oper.sees; exact List.mem_append_left _ (by simpa using hc)) v' e
        · simp at e
      have hperm : ∃ Mr, (M ++ Mf).Perm (fpm M fp ++ (Mr ++ Mf)) ∧ M.Perm (fpm M fp ++ Mr) := by
        cases fp with
        | none => exact ⟨M, by simp [fpm], by simp [fpm]⟩
        | some k =>
          cases hk : M[k]? with
          | none => exact ⟨M, by simp [fpm, hk], by simp [fpm, hk]⟩
          | some r =>
            have := perm_at hk
            refine ⟨M.eraseIdx k, ?_, by simpa [fpm, hk] using this⟩
            have := this.append_right Mf
            simpa [fpm, hk] using this
      obtain ⟨Mr, hp1, hp2⟩ := hperm
      have next : ∀ (u : Value) (F2 : EH) (w' : World), Rel F2 (pv i) u → Ext F0 F2 → Inv B F2 (M ++ Mf) w' → Below B w w' → wpAnyIn (RF ro) 0 P .any l.toArray Q fuel (lis.setIfInBounds i true) (a.put o.dst u) w' := by
        intro u F2 w' hr hF2 hi2 hb2
        obtain ⟨s1, s2⟩ := slots_next (al := al) hfl ho hni h.tmps hF2 (pv := pv) (pv' := pv) hr (fun _ _ => rfl) m4 m5
        refine ih _ _ _ pr rest pv M L hcount ⟨by simpa using h.size, hclosed, by cases o.dst <;> exact h.defers, by cases o.dst <;> simp [Act.put, h.tmps], h.ord, fun k hk => ?_, fun k hk hkw => ?_, h.next, h.eops, h.lenL, fun q1 j q2 hq hj hl => h.steps q1 j q2 hq hj (hone j hl), F2, m1.trans hF2, hi2, m3.trans hb2, s1, s2⟩
        · rw [set_lis hni] at hk
          split at hk
          · rename_i e; subst e; exact hipr
          · exact h.done k hk
        · rw [set_lis hni, h.wild k hk hkw]; split <;> rfl
      have done : ∀ (o' : Oper), o'.dst = o.dst → OpT P o' ((putsI l pv p1 al).only (Oper.tmps o)) (fpm M fp) (fun v' M' => v' = pv i ∧ M' = fpm M fp) → o'.wpIn (RF ro) 0 P a w (wpAnyIn (RF ro) 0 P .any l.toArray Q fuel (lis.setIfInBounds i true)) Q := by
        intro o' hd' hop
        refine wp_exits (Oper.wpIn_mono ?_ (hop n B F0 (Mr ++ Mf) a w (m2.perm hp1) hslots ro))
        rintro a' w' ⟨u, v', M', F2, rfl, ⟨rfl, rfl⟩, hr, hF2, hi2, hb2⟩
        rw [hd']
        exact next u F2 w' hr hF2 (hi2.perm hp1.symm) hb2
      have skip : pv i = .val undef → wpAnyIn (RF ro) 0 P .any l.toArray Q fuel (lis.setIfInBounds i true) (a.put o.dst undef) w := by
        intro e
        exact next undef F0 w (by rw [e]; exact .val _) (Ext.refl _) m2 (Below.refl _ _)
      unfold wpOpIn
      simp only [List.getElem?_toArray, ho]
      unfold DStep at hst
      cases hg : o.guard with
      | none =>
        rw [hg] at hst
        rw [if_pos (by simp [Region.wanted, hg])]
        exact done o rfl hst
      | some gb =>
        obtain ⟨g, b⟩ := gb
        rw [hg] at hst
        obtain ⟨t, ht, hst⟩ := hst
        have htin : t ∈ Oper.sees l o := by
          unfold Oper.sees
          rw [hg]
          exact List.mem_append_right _ (by simp [ht])
        have slot : ∀ x, (putsI l pv p1 al).lookup t = some (.val x) → a.tmps[t]? = some x := by
          intro x hx
          obtain ⟨q1, q2⟩ := hsees t htin _ hx
          have h4 : t < a.tmps.size := by rw [h.tmps]; exact q1
          generalize hy : a.tmps.getD t undef = y at q2
          cases q2
          rw [Array.getElem?_eq_getElem h4]
          simpa [Array.getD, h4] using hy
        have want : ∀ x, a.tmps[t]? = some x → Region.wanted o (yielded l.toArray a.tmps) = ((match some x with | some (.bool b) => some b | _ => none) == some b) := by
          intro x hx
          simp only [Region.wanted, hg, yielded, List.getElem?_toArray, ht, Option.bind_some, hx]
          cases x <;> rfl
        rcases hst with ⟨h1, h2⟩ | ⟨h1, h2⟩
        · rw [if_pos (by rw [want _ (slot _ h1)]; simp)]
          exact done { o with guard := none } rfl h2
        · rcases h1 with h1 | h1
          · rw [if_neg (by rw [want _ (slot _ h1)]; cases b <;> simp)]
            exact ⟨fun _ _ => trivial, skip h2⟩
          · rw [if_neg (by rw [want _ (slot _ h1)]; simp [undef])]
            exact ⟨fun _ _ => trivial, skip h2⟩
/-- a region whose order is drawn, and that writes -/
theorem ACode.drawnE {ro : Option Nat} {Q : Exit → Sl → Mem → Prop} {id : Nat} {M : Mem} (ord ws : List Nat) (anc : List (List Nat)) (hmix : P.follows .mixedOrders = true) (hfl : flowE n l ord ws anc = true) (h : EOps P l ws anc (Q .normal) ord al M []) : ACode ro P n (.region id l.toArray true) Q al M := by
  intro B F Mf a w hi hs
  have hF := FlowE.of hfl
  obtain ⟨pr, rest, pv, L, q1, q2, q3, q0, _, q5, _, q7⟩ := advance (P := P) (QQ := Q .normal) (al := al) (anc := anc) (l := l) (ws := ws) hF.nodup M (Array.replicate l.length false) ord [] (fun _ => .val undef) [] rfl h (by simp) (by intro p1 i p2 e; simp at e)
  refine wpIn_region_any hmix (region_flowE (ds := a.defers) (P := P) (QQ := Q .normal) (al := al) (B := B) (F := F) (Mf := Mf) (w0 := w) hF ?_ _ _ _ _ pr rest pv M L ?_ ?_)
  · intro a' w' pr pv M L hat
    obtain ⟨F', m1, m2, m3, m4, m5⟩ := hat.mem
    have he := hat.eops
    refine ⟨[], F', _, M, he, m1, m2, ⟨hat.tmps, fun t v e => ?_⟩, hat.defers, m3⟩
    have hall : ∀ j, j < l.length → (Array.replicate l.length true)[j]? = some true := fun j hj => by simp [hj]
    rcases putsI_lookup l pv pr al t with ⟨j, o, k0, k1, k3, k4⟩ | ⟨k1, k2⟩
    · rw [k4] at e
      simp at e; subst e
      have : j < l.length := by
        rcases Nat.lt_or_ge j l.length with q | q
        · exact q
        · rw [List.getElem?_eq_none q] at k1; simp at k1
      exact m5 j o t k1 k3 (hall j this)
    · rw [k2] at e
      refine m4 t v e (fun j o hj hdj => ?_)
      have : j < l.length := by
        rcases Nat.lt_or_ge j l.length with q | q
        · exact q
        · rw [List.getElem?_eq_none q] at hj; simp at hj
      exact absurd hdj (k1 j o (hat.done j (hall j this)) hj)
  · have := List.length_filter_le (fun j => !((Array.replicate l.length false)[j]? == some true)) (List.range l.length)
    simpa using this
  · have hno : ∀ k : Nat, (Array.replicate l.length false)[k]? ≠ some true := by
      intro k hk
      rw [Array.getElem?_replicate] at hk; split at hk <;> simp at hk
    refine ⟨by simp, fun k o hk hlk => absurd hlk (hno k), rfl, hs.1, q1, fun k hk => absurd hk (hno k), fun k hk hkw => ?_, q2, q3, q0, q7, F, Ext.refl F, hi.drew, (Below.refl _ _).drew, fun t v e _ => hs.2 t v e, fun j o t hj _ hlj => absurd hlj (hno j)⟩
    have := q5 k hk hkw
    simp at this
theorem c_drawnE {ro : Option Nat} {ks : List Kont} {Q : Exit → Sl → Mem → Prop} {id : Nat} {M : Mem} (ord ws : List Nat) (anc : List (List Nat)) (hmix : P.follows .mixedOrders = true) (hfl : flowE n l ord ws anc = true) (h : EOps P l ws anc (AGo ro P n ks Q) ord al M []) : ACode ro P n (.region id l.toArray true) (after ro P n ks Q) al M := ACode.drawnE ord ws anc hmix hfl h
variable {M : Mem} {L : List (Nat × Nat)} {o : Oper}
theorem OpT.mono {al : Sl} {M : Mem} {K K' : AV → Mem → Prop} (h : OpT P o al M K) (hk : ∀ v M', K v M' → K' v M') : OpT P o al M K' := by
  intro n B F Mf a w hi hs ro
  refine Oper.wpIn_mono ?_ (h n B F Mf a w hi hs ro)
  rintro a' w' ⟨u, v, M', F', h1, h2, h3⟩
  exact ⟨u, v, M', F', h1, hk _ _ h2, h3⟩
theorem EOps.d {v : AV} {i : Nat} (d : Nat) (fp : Option Nat) (hi : l[i]? = some o) (hw : ws.contains i = false) (hg : o.guard = none) (hd : o.dst = some d) (hfp : fp.all (fun k => Nat.blt k M.length) = true) (h : OpT P o (al.only (Oper.tmps o)) (fpm M fp) (fun v' M' => v' = v ∧ M' = fpm M fp)) (q : EOps P l ws anc QQ ord ((d, v) :: al) M ((fp.toList.map fun k => (i, k)) ++ L)) : EOps P l ws anc QQ (i :: ord) al M L :=
  ⟨o, hi, by rw [if_neg (by rw [hw]; simp)]; exact ⟨fp, v, hfp, by unfold DStep; rw [hg]; exact h, by rw [hd]; exact q⟩⟩
theorem EOps.cm {i : Nat} {p : Prop} (d : Nat) (hi : l[i]? = some o) (hw : ws.contains i = false) (hg : o.guard = none) (hd : o.dst = some d) (h : ∀ K : AV → Mem → Prop, (∀ c : Bool, (c = true ↔ p) → K (.val (.bool c)) []) → OpT P o (al.only (Oper.tmps o)) [] K) (q : ∀ c : Bool, (c = true ↔ p) → EOps P l ws anc QQ ord ((d, .val (.bool c)) :: al) M L) : EOps P l ws anc QQ (i :: ord) al M L := by
  have : ∃ c : Bool, c = true ↔ p := by
    by_cases hp : p
    · exact ⟨true, by simp [hp]⟩
    · exact ⟨false, by simp [hp]⟩
  obtain ⟨c, hc⟩ := this
  refine EOps.d d none hi hw hg hd rfl (h _ (fun c' hc' => ⟨?_, rfl⟩)) (q c hc)
  have : c' = c := by cases c <;> cases c' <;> simp_all
  rw [this]
theorem EOps.w {i : Nat} {r : Res} (k : Nat) (hi : l[i]? = some o) (hw : ws.contains i = true) (hg : o.guard = none) (hr : M[k]? = some r) (hL : (L.all fun x => x.2 != k || (anc.getD i []).contains x.1) = true) (h : OpT P o (al.only (Oper.tmps o)) [r] (fun v M' => ∃ r', M' = [r'] ∧ EOps P l ws anc QQ ord (al.put o.dst v) (M.set k r') L)) : EOps P l ws anc QQ (i :: ord) al M L :=
  ⟨o, hi, by rw [if_pos hw]; exact ⟨hg, .inl ⟨k, r, hr, hL, h⟩⟩⟩
theorem EOps.nw {i : Nat} (hi : l[i]? = some o) (hw : ws.contains i = true) (hg : o.guard = none) (h : OpT P o (al.only (Oper.tmps o)) [] (fun v M' => ∃ r', M' = [r'] ∧ EOps P l ws anc QQ ord (al.put o.dst v) (M ++ [r']) L)) : EOps P l ws anc QQ (i :: ord) al M L :=
  ⟨o, hi, by rw [if_pos hw]; exact ⟨hg, .inr (.inl (OpT.mono h (by rintro v M' ⟨r', rfl, h⟩; exact h)))⟩⟩
/-- an operation that makes new pieces -/
theorem EOps.nws {i : Nat} (hi : l[i]? = some o) (hw : ws.contains i = true) (hg : o.guard = none) (h : OpT P o (al.only (Oper.tmps o)) [] (fun v M' => EOps P l ws anc QQ ord (al.put o.dst v) (M ++ M') L)) : EOps P l ws anc QQ (i :: ord) al M L :=
  ⟨o, hi, by rw [if_pos hw]; exact ⟨hg, .inr (.inl h)⟩⟩
/-- an operation that may write all -/
theorem EOps.wh {i : Nat} (hi : l[i]? = some o) (hw : ws.contains i = true) (hg : o.guard = none) (hL : (L.all fun x => (anc.getD i []).contains x.1) = true) (h : OpT P o (al.only (Oper.tmps o)) M (fun v M' => EOps P l ws anc QQ ord (al.put o.dst v) M' [])) : EOps P l ws anc QQ (i :: ord) al M L :=
  ⟨o, hi, by rw [if_pos hw]; exact ⟨hg, .inr (.inr ⟨hL, h⟩)⟩⟩
end
end Go.Proofs.Ytflkdojahfmbnaa
