/- How much an expression has, as cognatelaw05.Count counts it. -/
import Derived.Test.YtjgjnheeohfmmaaPF
namespace Go.Proofs.Ytjgjnheeohfmmaa
open Go.RowKit
def Ty.kn : Ty → Nat | .mk _ _ _ ks => ks.length
def Pa.kn : Pa → Nat | .mk _ _ _ ks _ => ks.length
mutual
def Ex.full : Ex → Nat
  | .mk _ _ _ t ks al bs _ => 1 + t.kn + Ex.fulls ks + Bi.fulls bs + Al.fulls al
def Ex.fulls : List Ex → Nat
  | [] => 0
  | x :: xs => x.full + Ex.fulls xs
def Bi.full : Bi → Nat
  | .mk _ e _ => 1 + e.full
def Bi.fulls : List Bi → Nat
  | [] => 0
  | x :: xs => x.full + Bi.fulls xs
def Al.full : Al → Nat
  | .mk q e => 1 + e.full + q.kn
def Al.fulls : List Al → Nat
  | [] => 0
  | x :: xs => x.full + Al.fulls xs
end
mutual
/-- no slice that is counted is longer than a memory holds -/
def Ex.Lim : Ex → Prop
  | .mk _ _ _ t ks al bs _ => t.kn ≤ 140737488355328 ∧ Ex.Lims ks ∧ Bi.Lims bs ∧ Al.Lims al
def Ex.Lims : List Ex → Prop
  | [] => True
  | x :: xs => x.Lim ∧ Ex.Lims xs
def Bi.Lim : Bi → Prop
  | .mk _ e _ => e.Lim
def Bi.Lims : List Bi → Prop
  | [] => True
  | x :: xs => x.Lim ∧ Bi.Lims xs
def Al.Lim : Al → Prop
  | .mk q e => e.Lim ∧ q.kn ≤ 140737488355328
def Al.Lims : List Al → Prop
  | [] => True
  | x :: xs => x.Lim ∧ Al.Lims xs
end
theorem Ex.lims_iff : ∀ l : List Ex, Ex.Lims l ↔ ∀ x ∈ l, x.Lim
  | [] => by simp [Ex.Lims]
  | x :: l => by simp [Ex.Lims, Ex.lims_iff l]
theorem Bi.lims_iff : ∀ l : List Bi, Bi.Lims l ↔ ∀ x ∈ l, x.Lim
  | [] => by simp [Bi.Lims]
  | x :: l => by simp [Bi.Lims, Bi.lims_iff l]
theorem Al.lims_iff : ∀ l : List Al, Al.Lims l ↔ ∀ x ∈ l, x.Lim
  | [] => by simp [Al.Lims]
  | x :: l => by simp [Al.Lims, Al.lims_iff l]
mutual
def Ex.cnt : Ex → Int → Int
  | .mk _ _ _ t ks al bs _, m => Al.cnts al m (Bi.cnts bs m (Ex.cnts ks m (1 + t.kn)))
def Ex.cnts : List Ex → Int → Int → Int
  | [], _, n => n
  | x :: xs, m, n => if n < m then Ex.cnts xs m (n + x.cnt (m - n)) else n
def Bi.cnt : Bi → Int → Int
  | .mk _ e _, m => 1 + e.cnt m
def Bi.cnts : List Bi → Int → Int → Int
  | [], _, n => n
  | x :: xs, m, n => if n < m then Bi.cnts xs m (n + x.cnt (m - n)) else n
def Al.cnt : Al → Int → Int
  | .mk q e, m => 1 + e.cnt m + q.kn
def Al.cnts : List Al → Int → Int → Int
  | [], _, n => n
  | x :: xs, m, n => if n < m then Al.cnts xs m (n + x.cnt (m - n)) else n
end
theorem Ex.cnts_end {l : List Ex} {i : Nat} {m n : Int} (h : l.length ≤ i ∨ m ≤ n) : Ex.cnts (l.drop i) m n = n := by
  rcases h with h | h
  · rw [List.drop_eq_nil_of_le h, Ex.cnts]
  · cases l.drop i with
    | nil => rw [Ex.cnts]
    | cons x l => rw [Ex.cnts, if_neg (by omega)]
theorem Bi.cnts_end {l : List Bi} {i : Nat} {m n : Int} (h : l.length ≤ i ∨ m ≤ n) : Bi.cnts (l.drop i) m n = n := by
  rcases h with h | h
  · rw [List.drop_eq_nil_of_le h, Bi.cnts]
  · cases l.drop i with
    | nil => rw [Bi.cnts]
    | cons x l => rw [Bi.cnts, if_neg (by omega)]
theorem Al.cnts_end {l : List Al} {i : Nat} {m n : Int} (h : l.length ≤ i ∨ m ≤ n) : Al.cnts (l.drop i) m n = n := by
  rcases h with h | h
  · rw [List.drop_eq_nil_of_le h, Al.cnts]
  · cases l.drop i with
    | nil => rw [Al.cnts]
    | cons x l => rw [Al.cnts, if_neg (by omega)]
theorem drop_get {α : Type} {l : List α} {i : Nat} {x : α} (h : l[i]? = some x) : l.drop i = x :: l.drop (i + 1) := by
  obtain ⟨hi, rfl⟩ := List.getElem?_eq_some_iff.1 h
  exact List.drop_eq_getElem_cons hi
theorem Ex.cnts_at {l : List Ex} {i : Nat} {x : Ex} {m n : Int} (h : l[i]? = some x) (hn : n < m) : Ex.cnts (l.drop i) m n = Ex.cnts (l.drop (i + 1)) m (n + x.cnt (m - n)) := by
  rw [drop_get h, Ex.cnts, if_pos hn]
theorem Bi.cnts_at {l : List Bi} {i : Nat} {x : Bi} {m n : Int} (h : l[i]? = some x) (hn : n < m) : Bi.cnts (l.drop i) m n = Bi.cnts (l.drop (i + 1)) m (n + x.cnt (m - n)) := by
  rw [drop_get h, Bi.cnts, if_pos hn]
theorem Al.cnts_at {l : List Al} {i : Nat} {x : Al} {m n : Int} (h : l[i]? = some x) (hn : n < m) : Al.cnts (l.drop i) m n = Al.cnts (l.drop (i + 1)) m (n + x.cnt (m - n)) := by
  rw [drop_get h, Al.cnts, if_pos hn]
mutual
theorem Ex.cnt_b : ∀ (e : Ex) (m : Int), e.Lim → 1 ≤ m → m ≤ 2000 → 1 ≤ e.cnt m ∧ e.cnt m ≤ 562949953421312 * m ∧ e.cnt m ≤ e.full ∧ (e.cnt m < m → e.cnt m = e.full)
  | .mk k s n t ks al bs p, m => by
    intro hl h1 h2
    rw [Ex.Lim] at hl
    obtain ⟨l1, l2, l3, l4⟩ := hl
    rw [Ex.cnt, Ex.full]
    obtain ⟨a1, a2, a3, a4⟩ := Ex.cnts_b ks m (1 + t.kn) l2 h1 h2 (by omega) (by omega)
    generalize Ex.cnts ks m (1 + t.kn) = n1 at *
    obtain ⟨b1, b2, b3, b4⟩ := Bi.cnts_b bs m n1 l3 h1 h2 (by omega) (by omega)
    generalize Bi.cnts bs m n1 = n2 at *
    obtain ⟨c1, c2, c3, c4⟩ := Al.cnts_b al m n2 l4 h1 h2 (by omega) (by omega)
    generalize Al.cnts al m n2 = n3 at *
    omega
theorem Ex.cnts_b : ∀ (l : List Ex) (m n : Int), Ex.Lims l → 1 ≤ m → m ≤ 2000 → 1 ≤ n → n ≤ 562949953421312 * m → n ≤ Ex.cnts l m n ∧ Ex.cnts l m n ≤ 562949953421312 * m ∧ Ex.cnts l m n ≤ n + Ex.fulls l ∧ (Ex.cnts l m n < m → Ex.cnts l m n = n + Ex.fulls l)
  | [], m, n => by intro _ _ _ _ _; simp only [Ex.cnts, Ex.fulls]; omega
  | x :: xs, m, n => by
    intro hl h1 h2 h3 h4
    rw [Ex.Lims] at hl
    rw [Ex.cnts, Ex.fulls]
    split
    · rename_i h
      obtain ⟨a1, a2, a3, a4⟩ := Ex.cnt_b x (m - n) hl.1 (by omega) (by omega)
      generalize x.cnt (m - n) = c at *
      obtain ⟨b1, b2, b3, b4⟩ := Ex.cnts_b xs m (n + c) hl.2 h1 h2 (by omega) (by omega)
      generalize Ex.cnts xs m (n + c) = r at *
      omega
    · omega
theorem Bi.cnt_b : ∀ (e : Bi) (m : Int), e.Lim → 1 ≤ m → m ≤ 2000 → 2 ≤ e.cnt m ∧ e.cnt m ≤ 1 + 562949953421312 * m ∧ e.cnt m ≤ e.full ∧ (e.cnt m < m → e.cnt m = e.full)
  | .mk s e p, m => by
    intro hl h1 h2
    rw [Bi.Lim] at hl
    rw [Bi.cnt, Bi.full]
    have := Ex.cnt_b e m hl h1 h2
    omega
theorem Bi.cnts_b : ∀ (l : List Bi) (m n : Int), Bi.Lims l → 1 ≤ m → m ≤ 2000 → 1 ≤ n → n ≤ 562949953421312 * m → n ≤ Bi.cnts l m n ∧ Bi.cnts l m n ≤ 562949953421312 * m ∧ Bi.cnts l m n ≤ n + Bi.fulls l ∧ (Bi.cnts l m n < m → Bi.cnts l m n = n + Bi.fulls l)
  | [], m, n => by intro _ _ _ _ _; simp only [Bi.cnts, Bi.fulls]; omega
  | x :: xs, m, n => by
    intro hl h1 h2 h3 h4
    rw [Bi.Lims] at hl
    rw [Bi.cnts, Bi.fulls]
    split
    · rename_i h
      obtain ⟨a1, a2, a3, a4⟩ := Bi.cnt_b x (m - n) hl.1 (by omega) (by omega)
      generalize x.cnt (m - n) = c at *
      obtain ⟨b1, b2, b3, b4⟩ := Bi.cnts_b xs m (n + c) hl.2 h1 h2 (by omega) (by omega)
      generalize Bi.cnts xs m (n + c) = r at *
      omega
    · omega
theorem Al.cnt_b : ∀ (e : Al) (m : Int), e.Lim → 1 ≤ m → m ≤ 2000 → 2 ≤ e.cnt m ∧ e.cnt m ≤ 1 + 562949953421312 * m + 140737488355328 ∧ e.cnt m ≤ e.full ∧ (e.cnt m < m → e.cnt m = e.full)
  | .mk q e, m => by
    intro hl h1 h2
    rw [Al.Lim] at hl
    rw [Al.cnt, Al.full]
    have := Ex.cnt_b e m hl.1 h1 h2
    omega
theorem Al.cnts_b : ∀ (l : List Al) (m n : Int), Al.Lims l → 1 ≤ m → m ≤ 2000 → 1 ≤ n → n ≤ 562949953421312 * m → n ≤ Al.cnts l m n ∧ Al.cnts l m n ≤ 562949953421312 * m ∧ Al.cnts l m n ≤ n + Al.fulls l ∧ (Al.cnts l m n < m → Al.cnts l m n = n + Al.fulls l)
  | [], m, n => by intro _ _ _ _ _; simp only [Al.cnts, Al.fulls]; omega
  | x :: xs, m, n => by
    intro hl h1 h2 h3 h4
    rw [Al.Lims] at hl
    rw [Al.cnts, Al.fulls]
    split
    · rename_i h
      obtain ⟨a1, a2, a3, a4⟩ := Al.cnt_b x (m - n) hl.1 (by omega) (by omega)
      generalize x.cnt (m - n) = c at *
      obtain ⟨b1, b2, b3, b4⟩ := Al.cnts_b xs m (n + c) hl.2 h1 h2 (by omega) (by omega)
      generalize Al.cnts xs m (n + c) = r at *
      omega
    · omega
end
theorem Ex.fulls_map : ∀ l : List Ex, Ex.fulls l = (l.map Ex.full).sum
  | [] => by simp [Ex.fulls]
  | x :: l => by simp [Ex.fulls, Ex.fulls_map l]
theorem sum_le {α : Type} {f g : α → Nat} : ∀ {l : List α}, (∀ x ∈ l, f x ≤ g x) → (l.map f).sum ≤ (l.map g).sum
  | [], _ => by simp
  | x :: l, h => by
    have h1 := h x (by simp)
    have h2 := sum_le (l := l) (fun y hy => h y (by simp [hy]))
    simp; omega
theorem Bi.fulls_ge : ∀ l : List Bi, ((l.map Bi.e).map Ex.full).sum ≤ Bi.fulls l
  | [] => by simp
  | .mk s e p :: l => by have := Bi.fulls_ge l; simp only [List.map_cons, List.sum_cons, Bi.fulls, Bi.full, Bi.e]; omega
theorem Al.fulls_ge : ∀ l : List Al, ((l.map Al.e).map Ex.full).sum ≤ Al.fulls l
  | [] => by simp
  | .mk q e :: l => by have := Al.fulls_ge l; simp only [List.map_cons, List.sum_cons, Al.fulls, Al.full, Al.e]; omega
theorem Ex.full_parts (e : Ex) : 1 + (e.parts.map Ex.full).sum ≤ e.full := by
  obtain ⟨k, s, n, t, ks, al, bs, p⟩ := e
  have h1 := Bi.fulls_ge bs
  have h2 := Al.fulls_ge al
  have h3 := Ex.fulls_map ks
  simp only [Ex.parts, Ex.full, List.map_append, List.sum_append]
  split <;> simp only [List.map_nil, List.sum_nil] <;> omega
theorem Ex.sz_le (e : Ex) : e.sz ≤ e.full := by
  have h1 := Ex.full_parts e
  have h2 : (e.parts.map Ex.sz).sum ≤ (e.parts.map Ex.full).sum := sum_le fun x hx => Ex.sz_le x
  rw [Ex.sz_eq]; omega
termination_by SizeOf.sizeOf e
decreasing_by exact Ex.lt_part hx
theorem sum_len {l : List Nat} (h : ∀ x ∈ l, 1 ≤ x) : l.length ≤ l.sum := by
  induction l with
  | nil => simp
  | cons x l ih =>
    have h1 := h x (by simp)
    have h2 := ih (fun y hy => h y (by simp [hy]))
    simp; omega
theorem Ex.parts_lt (e : Ex) : e.parts.length < e.sz := by
  have : (e.parts.map Ex.sz).length ≤ (e.parts.map Ex.sz).sum := sum_len (by
    intro x hx
    obtain ⟨y, hy, rfl⟩ := List.mem_map.1 hx
    rw [Ex.sz_eq]; omega)
  rw [List.length_map] at this
  rw [Ex.sz_eq]; omega
theorem Ex.cellss_app (a b : List Ex) : Ex.cellss (a ++ b) = Ex.cellss a ++ Ex.cellss b := by simp [Ex.cellss_map]
end Go.Proofs.Ytjgjnheeohfmmaa
