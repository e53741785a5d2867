/- Free names as the document has them, and that they are those that a search finds. -/
import Derived.Test.YtjgjnheeohfmmaaPF
namespace Go.Proofs.Ytjgjnheeohfmmaa
open Go.RowKit
/-- a list, and those of another one that it does not have -/
noncomputable def jn : List Txt → List Txt → List Txt
  | l, [] => l
  | l, x :: xs => jn (if x ∈ l then l else l ++ [x]) xs
noncomputable def wo (l g : List Txt) : List Txt := l.filter (fun x => decide (x ∉ g))
theorem jn_nil (l : List Txt) : jn l [] = l := by rw [jn]
theorem jn_cons (l xs : List Txt) (x : Txt) : jn l (x :: xs) = jn (if x ∈ l then l else l ++ [x]) xs := by rw [jn]
theorem jn_app : ∀ (a b c : List Txt), jn a (b ++ c) = jn (jn a b) c
  | a, [], c => by simp [jn_nil]
  | a, x :: b, c => by rw [List.cons_append, jn_cons, jn_cons, jn_app]
theorem jn_mem : ∀ (a b : List Txt) (y : Txt), y ∈ jn a b ↔ y ∈ a ∨ y ∈ b
  | a, [], y => by simp [jn_nil]
  | a, x :: b, y => by
    rw [jn_cons, jn_mem]
    by_cases h : x ∈ a
    · rw [if_pos h]; simp only [List.mem_cons]
      constructor
      · rintro (q | q)
        · exact .inl q
        · exact .inr (.inr q)
      · rintro (q | rfl | q)
        · exact .inl q
        · exact .inl h
        · exact .inr q
    · rw [if_neg h]; simp [or_assoc]
theorem jn_one {a : List Txt} {x : Txt} (h : x ∈ a) : jn a [x] = a := by rw [jn_cons, if_pos h, jn_nil]
theorem jn_snoc (a b : List Txt) (x : Txt) : jn a (b ++ [x]) = if x ∈ jn a b then jn a b else jn a b ++ [x] := by
  rw [jn_app, jn_cons, jn_nil]
theorem jn_assoc (a b : List Txt) : ∀ c, jn (jn a b) c = jn a (jn b c) := by
  intro c
  induction c generalizing b with
  | nil => rw [jn_nil, jn_nil]
  | cons x c ih =>
    rw [jn_cons, jn_cons]
    by_cases h : x ∈ b
    · rw [if_pos h, if_pos ((jn_mem a b x).2 (.inr h)), ih]
    · rw [if_neg h, ← ih, jn_snoc]
theorem jn_idl (a b : List Txt) : jn a (jn [] b) = jn a b := by rw [← jn_assoc, jn_nil]
theorem wo_app (a b g : List Txt) : wo (a ++ b) g = wo a g ++ wo b g := by simp [wo]
theorem wo_mem (a g : List Txt) (x : Txt) : x ∈ wo a g ↔ x ∈ a ∧ x ∉ g := by simp [wo]
theorem wo_jn (a b g : List Txt) : wo (jn a b) g = jn (wo a g) (wo b g) := by
  induction b generalizing a with
  | nil => rw [jn_nil]; show _ = jn _ []; rw [jn_nil]
  | cons x b ih =>
    rw [jn_cons, ih]
    by_cases hg : x ∈ g
    · have e1 : wo (x :: b) g = wo b g := by simp [wo, hg]
      have e2 : wo [x] g = [] := by simp [wo, hg]
      rw [e1]
      split
      · rfl
      · rw [wo_app, e2, List.append_nil]
    · have e1 : wo (x :: b) g = x :: wo b g := by simp [wo, hg]
      have e2 : wo [x] g = [x] := by simp [wo, hg]
      rw [e1, jn_cons]
      by_cases h : x ∈ a
      · rw [if_pos h, if_pos ((wo_mem a g x).2 ⟨h, hg⟩)]
      · rw [if_neg h, if_neg (fun q => h ((wo_mem a g x).1 q).1), wo_app, e2]
theorem wo_wo (a g h : List Txt) : wo (wo a g) h = wo a (h ++ g) := by
  simp only [wo, List.filter_filter, List.mem_append]
  congr 1; funext x
  by_cases h1 : x ∈ g <;> by_cases h2 : x ∈ h <;> simp [h1, h2]
theorem wo_nil (a : List Txt) : wo a [] = a := by simp [wo]
theorem jn_len : ∀ (a b : List Txt), (jn a b).length ≤ a.length + b.length
  | a, [] => by simp [jn_nil]
  | a, x :: b => by
    rw [jn_cons]
    refine Nat.le_trans (jn_len _ b) ?_
    split <;> simp <;> omega
theorem wo_len (a g : List Txt) : (wo a g).length ≤ a.length := List.length_filter_le _ _
theorem jn_nodup : ∀ (a b : List Txt), a.Nodup → (jn a b).Nodup
  | a, [], h => by rw [jn_nil]; exact h
  | a, x :: b, h => by
    rw [jn_cons]
    refine jn_nodup _ b ?_
    split
    · exact h
    · rename_i q
      rw [List.nodup_append]
      exact ⟨h, by simp, by intro y hy z hz; simp at hz; subst hz; intro e; subst e; exact q hy⟩
theorem jn_disj : ∀ (a b : List Txt), (a ++ b).Nodup → jn a b = a ++ b
  | a, [], h => by simp [jn_nil]
  | a, x :: b, h => by
    have hx : x ∉ a := by
      rw [List.nodup_append] at h
      intro q
      exact h.2.2 x q x (by simp) rfl
    rw [jn_cons, if_neg hx, jn_disj (a ++ [x]) b (by simpa using h)]
    simp
theorem jn_id {b : List Txt} (h : b.Nodup) : jn [] b = b := by simpa using jn_disj [] b (by simpa using h)
mutual
noncomputable def Ex.rf : Ex → List Txt
  | .mk k s n _ ks al bs _ => Al.rfs al (if k = 7 then jn (jn (if k = 3 then [s] else []) (if n = 1 then wo (Bi.rfs bs []) (Bi.names bs) else Bi.rfs bs [])) (wo (Ex.rfs ks []) (Bi.names bs))
      else if k = 6 then jn (jn (if k = 3 then [s] else []) (wo (Ex.rfs ks []) [s])) (Bi.rfs bs [])
      else jn (jn (if k = 3 then [s] else []) (Ex.rfs ks [])) (Bi.rfs bs []))
noncomputable def Ex.rfs : List Ex → List Txt → List Txt
  | [], out => out
  | x :: xs, out => Ex.rfs xs (jn out x.rf)
noncomputable def Al.rf : Al → List Txt
  | .mk q e => wo e.rf q.names
noncomputable def Al.rfs : List Al → List Txt → List Txt
  | [], out => out
  | x :: xs, out => Al.rfs xs (jn out x.rf)
noncomputable def Bi.rf : Bi → List Txt
  | .mk _ e _ => e.rf
noncomputable def Bi.rfs : List Bi → List Txt → List Txt
  | [], out => out
  | x :: xs, out => Bi.rfs xs (jn out x.rf)
end
theorem Bi.rfs_map : ∀ (bs : List Bi) (out : List Txt), Bi.rfs bs out = Ex.rfs (bs.map Bi.e) out
  | [], out => by simp [Bi.rfs, Ex.rfs]
  | .mk s e p :: bs, out => by simp only [Bi.rfs, List.map_cons, Bi.e, Ex.rfs, Bi.rf]; exact Bi.rfs_map bs _
theorem Ex.rfs_acc : ∀ (l : List Ex) (acc : List Txt), Ex.rfs l acc = jn acc (Ex.rfs l [])
  | [], acc => by simp [Ex.rfs, jn_nil]
  | x :: l, acc => by
    rw [Ex.rfs, Ex.rfs, Ex.rfs_acc l (jn acc x.rf), Ex.rfs_acc l (jn [] x.rf), ← jn_assoc, ← jn_assoc, jn_nil]
theorem Ex.rfs_app : ∀ (a b : List Ex) (out : List Txt), Ex.rfs (a ++ b) out = Ex.rfs b (Ex.rfs a out)
  | [], b, out => by simp [Ex.rfs]
  | x :: a, b, out => by simp only [List.cons_append, Ex.rfs]; exact Ex.rfs_app a b _
theorem Al.rfs_app : ∀ (a b : List Al) (out : List Txt), Al.rfs (a ++ b) out = Al.rfs b (Al.rfs a out)
  | [], b, out => by simp [Al.rfs]
  | x :: a, b, out => by simp only [List.cons_append, Al.rfs]; exact Al.rfs_app a b _
theorem Ex.rfs_take {out : List Txt} {ts : List Ex} {i : Nat} {x : Ex} (h : ts[i]? = some x) : Ex.rfs (ts.take (i + 1)) out = jn (Ex.rfs (ts.take i) out) x.rf := by
  rw [List.take_add_one, h, Ex.rfs_app]; simp [Ex.rfs]
theorem Al.rfs_take {out : List Txt} {ts : List Al} {i : Nat} {x : Al} (h : ts[i]? = some x) : Al.rfs (ts.take (i + 1)) out = jn (Al.rfs (ts.take i) out) x.rf := by
  rw [List.take_add_one, h, Al.rfs_app]; simp [Al.rfs]
theorem Al.rfs_nodup : ∀ (l : List Al) (out : List Txt), out.Nodup → (Al.rfs l out).Nodup
  | [], out, h => by rw [Al.rfs]; exact h
  | x :: l, out, h => by rw [Al.rfs]; exact Al.rfs_nodup l _ (jn_nodup _ _ h)
theorem Ex.rf_nodup (e : Ex) : e.rf.Nodup := by
  obtain ⟨k, s, n, t, ks, al, bs, p⟩ := e
  rw [Ex.rf]
  have h0 : (if k = 3 then [s] else []).Nodup := by split <;> simp
  refine Al.rfs_nodup _ _ ?_
  split
  · exact jn_nodup _ _ (jn_nodup _ _ h0)
  · split <;> exact jn_nodup _ _ (jn_nodup _ _ h0)
mutual
theorem Ex.rf_len : ∀ e : Ex, e.rf.length ≤ e.w
  | .mk k s n t ks al bs p => by
    rw [Ex.rf, Ex.w]
    refine Nat.le_trans (Al.rfs_len al _) ?_
    have h0 : (if k = 3 then [s] else []).length ≤ 1 := by split <;> simp
    generalize (if k = 3 then [s] else []) = o at *
    have h1 := Ex.rfs_len ks []
    have h2 := Bi.rfs_len bs []
    have j1 := fun a b => jn_len a b
    have w1 := fun a b => wo_len a b
    simp only [List.length_nil, Nat.zero_add] at h1 h2
    split
    · split
      · have a1 := j1 (jn o (wo (Bi.rfs bs []) (Bi.names bs))) (wo (Ex.rfs ks []) (Bi.names bs))
        have a2 := j1 o (wo (Bi.rfs bs []) (Bi.names bs))
        have a3 := w1 (Bi.rfs bs []) (Bi.names bs)
        have a4 := w1 (Ex.rfs ks []) (Bi.names bs)
        omega
      · have a1 := j1 (jn o (Bi.rfs bs [])) (wo (Ex.rfs ks []) (Bi.names bs))
        have a2 := j1 o (Bi.rfs bs [])
        have a4 := w1 (Ex.rfs ks []) (Bi.names bs)
        omega
    · split
      · have a1 := j1 (jn o (wo (Ex.rfs ks []) [s])) (Bi.rfs bs [])
        have a2 := j1 o (wo (Ex.rfs ks []) [s])
        have a4 := w1 (Ex.rfs ks []) [s]
        omega
      · have a1 := j1 (jn o (Ex.rfs ks [])) (Bi.rfs bs [])
        have a2 := j1 o (Ex.rfs ks [])
        omega
theorem Ex.rfs_len : ∀ (l : List Ex) (out : List Txt), (Ex.rfs l out).length ≤ out.length + Ex.ws l
  | [], out => by simp [Ex.rfs]
  | x :: l, out => by
    have h1 := Ex.rfs_len l (jn out x.rf)
    have h2 := Ex.rf_len x
    have h3 := jn_len out x.rf
    rw [Ex.rfs, Ex.ws]; omega
theorem Al.rf_len : ∀ e : Al, e.rf.length ≤ e.w
  | .mk q e => by
    have h1 := Ex.rf_len e
    have h2 := wo_len e.rf q.names
    rw [Al.rf, Al.w]; omega
theorem Al.rfs_len : ∀ (l : List Al) (out : List Txt), (Al.rfs l out).length ≤ out.length + Al.ws l
  | [], out => by simp [Al.rfs]
  | x :: l, out => by
    have h1 := Al.rfs_len l (jn out x.rf)
    have h2 := Al.rf_len x
    have h3 := jn_len out x.rf
    rw [Al.rfs, Al.ws]; omega
theorem Bi.rf_len : ∀ e : Bi, e.rf.length ≤ e.w
  | .mk _ e _ => by
    have h1 := Ex.rf_len e
    rw [Bi.rf, Bi.w]; omega
theorem Bi.rfs_len : ∀ (l : List Bi) (out : List Txt), (Bi.rfs l out).length ≤ out.length + Bi.ws l
  | [], out => by simp [Bi.rfs]
  | x :: l, out => by
    have h1 := Bi.rfs_len l (jn out x.rf)
    have h2 := Bi.rf_len x
    have h3 := jn_len out x.rf
    rw [Bi.rfs, Bi.ws]; omega
end
theorem jn_start (k : Int) (s : Txt) (bd out : List Txt) : (if k = 3 ∧ s ∉ bd ∧ s ∉ out then out ++ [s] else out) = jn out (wo (if k = 3 then [s] else []) bd) := by
  by_cases h : k = 3
  · by_cases hb : s ∈ bd
    · simp [h, hb, wo, jn_nil]
    · by_cases ho : s ∈ out
      · simp [h, hb, ho, wo, jn_cons, jn_nil]
      · simp [h, hb, ho, wo, jn_cons, jn_nil]
  · simp [h, wo, jn_nil]
mutual
theorem Ex.fr_rf : ∀ (e : Ex) (bd out : List Txt), e.fr bd out = jn out (wo e.rf bd)
  | .mk k s n t ks al bs p, bd, out => by
    rw [Ex.fr, Ex.rf, jn_start]
    generalize (if k = 3 then [s] else []) = o
    have h1 := fun bd out => Ex.frs_rf ks bd out
    have h2 := fun bd out => Bi.frs_rf bs bd out
    refine Eq.trans (congrArg _ ?_) (Al.frs_rf al bd out _)
    split
    · split
      · rw [h2, h1, wo_jn, wo_jn, wo_wo, wo_wo, jn_assoc, jn_assoc, jn_assoc]
      · rw [h2, h1, wo_jn, wo_jn, wo_wo, jn_assoc, jn_assoc, jn_assoc]
    · split
      · rw [h1, h2, wo_jn, wo_jn, wo_wo, jn_assoc, jn_assoc, jn_assoc]
      · rw [h1, h2, wo_jn, wo_jn, jn_assoc, jn_assoc, jn_assoc]
theorem Ex.frs_rf : ∀ (l : List Ex) (bd out : List Txt), Ex.frs l bd out = jn out (wo (Ex.rfs l []) bd)
  | [], bd, out => by simp [Ex.frs, Ex.rfs, wo, jn_nil]
  | x :: l, bd, out => by
    rw [Ex.frs, Ex.fr_rf x bd out, Ex.frs_rf l bd, Ex.rfs, Ex.rfs_acc l (jn [] x.rf), wo_jn, wo_jn, ← jn_assoc]
    congr 1
    show _ = jn out (jn (wo [] bd) _)
    rw [show wo [] bd = [] from rfl, jn_idl]
theorem Al.frs_rf : ∀ (l : List Al) (bd out X : List Txt), Al.frs l bd (jn out (wo X bd)) = jn out (wo (Al.rfs l X) bd)
  | [], bd, out, X => by rw [Al.frs, Al.rfs]
  | .mk q e :: l, bd, out, X => by
    rw [Al.frs, Al.fr, Ex.fr_rf e, Al.rfs, Al.rf, ← Al.frs_rf l bd out, wo_jn, wo_wo, jn_assoc]
theorem Bi.frs_rf : ∀ (l : List Bi) (bd out : List Txt), Bi.frs l bd out = jn out (wo (Bi.rfs l []) bd)
  | [], bd, out => by simp [Bi.frs, Bi.rfs, wo, jn_nil]
  | .mk s e p :: l, bd, out => by
    rw [Bi.frs, Bi.fr, Ex.fr_rf e bd out, Bi.frs_rf l bd, Bi.rfs, Bi.rf, Bi.rfs_map l (jn [] e.rf), Ex.rfs_acc _ (jn [] e.rf), ← Bi.rfs_map, wo_jn, wo_jn, ← jn_assoc]
    congr 1
    show _ = jn out (jn (wo [] bd) _)
    rw [show wo [] bd = [] from rfl, jn_idl]
end
theorem Ex.free_eq (e : Ex) : e.fr [] [] = e.rf := by rw [Ex.fr_rf, wo_nil, jn_id e.rf_nodup]
end Go.Proofs.Ytjgjnheeohfmmaa
