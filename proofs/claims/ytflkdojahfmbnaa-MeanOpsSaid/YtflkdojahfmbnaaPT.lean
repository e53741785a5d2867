/- Types as plain data: a kind, a name, a number, and kids; their size, their sameness, and the count that the statements bound them by. -/
import Derived.Test.YtflkdojahfmbnaaAL7
namespace Go.Proofs.Ytflkdojahfmbnaa
open Go.RowKit
instance : DecidableEq ByteArray := fun a b => if h : a.toList = b.toList then isTrue (ba_eq h) else isFalse (fun e => h (by rw [e]))
inductive Ty where
  | mk (k : Int) (s : ByteArray) (n : Int) (ks : List Ty)
def Ty.kind : Ty → Int | .mk k _ _ _ => k
def Ty.name : Ty → ByteArray | .mk _ s _ _ => s
def Ty.num : Ty → Int | .mk _ _ n _ => n
def Ty.kids : Ty → List Ty | .mk _ _ _ ks => ks
mutual
def Ty.size : Ty → Nat
  | .mk _ _ _ ks => 1 + Ty.sizes ks
def Ty.sizes : List Ty → Nat
  | [] => 0
  | t :: ts => t.size + Ty.sizes ts
end
theorem Ty.size_pos (t : Ty) : 1 ≤ t.size := by cases t; simp [Ty.size]
theorem Ty.size_mem {t : Ty} : ∀ {ts : List Ty}, t ∈ ts → t.size ≤ Ty.sizes ts
  | [], h => by simp at h
  | u :: ts, h => by
    rw [Ty.sizes]
    rcases List.mem_cons.1 h with rfl | h
    · omega
    · have := Ty.size_mem h; omega
theorem Ty.size_kid {t u : Ty} (h : u ∈ t.kids) : u.size < t.size := by
  obtain ⟨k, s, n, ks⟩ := t
  have := Ty.size_mem (show u ∈ ks from h)
  rw [Ty.size]; omega
theorem Ty.size_get {t : Ty} {i : Nat} (h : i < t.kids.length) : (t.kids[i]).size < t.size := Ty.size_kid (List.getElem_mem h)
mutual
/-- the cells that a type takes -/
def Ty.cells : Ty → List AV
  | .mk k s n ks => [.val (.int .i64 k), .val (.string s), .val (.int .i64 n), .seq 4 (Ty.cellss ks)]
def Ty.cellss : List Ty → List (List AV)
  | [] => []
  | t :: ts => t.cells :: Ty.cellss ts
end
theorem Ty.cellss_map : ∀ ts : List Ty, Ty.cellss ts = ts.map Ty.cells
  | [] => by simp [Ty.cellss]
  | t :: ts => by simp [Ty.cellss, Ty.cellss_map ts]
theorem Ty.cellss_len (ts : List Ty) : (Ty.cellss ts).length = ts.length := by rw [Ty.cellss_map]; simp
theorem Ty.cellss_get {ts : List Ty} {i : Nat} {t : Ty} (h : ts[i]? = some t) : (Ty.cellss ts)[i]? = some t.cells := by rw [Ty.cellss_map]; simp [h]
theorem Ty.cellss_app (a b : List Ty) : Ty.cellss (a ++ b) = Ty.cellss a ++ Ty.cellss b := by simp [Ty.cellss_map]
theorem Ty.size_at {ts : List Ty} {i : Nat} {t : Ty} (h : ts[i]? = some t) : t.size ≤ Ty.sizes ts := Ty.size_mem (List.mem_of_getElem? h)
theorem get_some {α : Type} {l : List α} {i : Nat} (h : i < l.length) : ∃ x, l[i]? = some x := ⟨l[i], List.getElem?_eq_getElem h⟩
theorem drop_at {α : Type} {l : List α} {i : Nat} {x : α} (h : l[i]? = some x) : l.drop i = x :: l.drop (i + 1) := by
  have hi : i < l.length := by
    rcases Nat.lt_or_ge i l.length with k | k
    · exact k
    · rw [List.getElem?_eq_none k] at h; simp at h
  rw [List.drop_eq_getElem_cons hi]
  rw [List.getElem?_eq_getElem hi] at h
  simp at h
  rw [h]
mutual
def Ty.cnt : Ty → Int → Int
  | .mk k _ n ks, most => if k = 1 ∧ (ks ≠ [] ∨ n ≠ 0) then most else Ty.cnts ks 1 most
def Ty.cnts : List Ty → Int → Int → Int
  | [], n, _ => n
  | t :: ts, n, most => if n < most then Ty.cnts ts (n + t.cnt (most - n)) most else n
end
mutual
theorem Ty.cnt_bd : ∀ (t : Ty) (m : Int), 1 ≤ m → 1 ≤ t.cnt m ∧ t.cnt m ≤ m
  | .mk k s n ks, m, h => by
    rw [Ty.cnt]
    split
    · omega
    · exact Ty.cnts_bd ks 1 m (by omega) h
theorem Ty.cnts_bd : ∀ (ts : List Ty) (n m : Int), 1 ≤ n → n ≤ m → 1 ≤ Ty.cnts ts n m ∧ Ty.cnts ts n m ≤ m
  | [], n, m, h, h' => by rw [Ty.cnts]; omega
  | t :: ts, n, m, h, h' => by
    rw [Ty.cnts]
    split
    · have := Ty.cnt_bd t (m - n) (by omega)
      exact Ty.cnts_bd ts _ m (by omega) (by omega)
    · omega
end
/-- variables have no kids and no number -/
inductive Ty.VarOk : Ty → Prop
  | mk (k : Int) (s : ByteArray) (n : Int) (ks : List Ty) (h : k = 1 → ks = [] ∧ n = 0) (hk : ∀ t ∈ ks, Ty.VarOk t) : Ty.VarOk (.mk k s n ks)
mutual
theorem Ty.cnt_size : ∀ (t : Ty) (m : Int), 1 ≤ m → t.cnt m < m → (t.size : Int) = t.cnt m ∧ t.VarOk
  | .mk k s n ks, m, h, hlt => by
    rw [Ty.cnt] at hlt ⊢
    split at hlt
    · omega
    · rename_i hc
      rw [if_neg hc]
      obtain ⟨h1, h2⟩ := Ty.cnts_size ks 1 m (by omega) h hlt
      refine ⟨by rw [Ty.size]; omega, .mk k s n ks (fun hk => ?_) h2⟩
      constructor
      · cases ks with
        | nil => rfl
        | cons t ts => exact absurd ⟨hk, Or.inl (by simp)⟩ hc
      · by_cases hn : n = 0
        · exact hn
        · exact absurd ⟨hk, Or.inr hn⟩ hc
theorem Ty.cnts_size : ∀ (ts : List Ty) (n m : Int), 1 ≤ n → n ≤ m → Ty.cnts ts n m < m → n + (Ty.sizes ts : Int) = Ty.cnts ts n m ∧ ∀ t ∈ ts, t.VarOk
  | [], n, m, h, h', hlt => by rw [Ty.cnts, Ty.sizes]; exact ⟨by simp, by simp⟩
  | t :: ts, n, m, h, h', hlt => by
    rw [Ty.cnts] at hlt ⊢
    split at hlt
    · rename_i hc
      rw [if_pos hc]
      have hb := Ty.cnt_bd t (m - n) (by omega)
      obtain ⟨i1, i2⟩ := Ty.cnts_size ts (n + t.cnt (m - n)) m (by omega) (by omega) hlt
      have hlt2 : t.cnt (m - n) < m - n := by
        have := Ty.cnts_ge ts (n + t.cnt (m - n)) m (by omega) (by omega)
        omega
      obtain ⟨j1, j2⟩ := Ty.cnt_size t (m - n) (by omega) hlt2
      refine ⟨by rw [Ty.sizes]; omega, fun u hu => ?_⟩
      rcases List.mem_cons.1 hu with rfl | hu
      · exact j2
      · exact i2 u hu
    · omega
theorem Ty.cnts_ge : ∀ (ts : List Ty) (n m : Int), 1 ≤ n → n ≤ m → n ≤ Ty.cnts ts n m
  | [], n, m, h, h' => by rw [Ty.cnts]; omega
  | t :: ts, n, m, h, h' => by
    rw [Ty.cnts]
    split
    · have hb := Ty.cnt_bd t (m - n) (by omega)
      have := Ty.cnts_ge ts (n + t.cnt (m - n)) m (by omega) (by omega)
      omega
    · omega
end
def Ty.small (t : Ty) (most : Int) : Bool := decide (t.cnt (most + 1) ≤ most)
theorem Ty.small_size {t : Ty} {most : Int} (h0 : 0 ≤ most) (h : t.small most = true) : (t.size : Int) ≤ most ∧ t.VarOk := by
  unfold Ty.small at h
  simp at h
  obtain ⟨h1, h2⟩ := Ty.cnt_size t (most + 1) (by omega) (by omega)
  exact ⟨by omega, h2⟩
theorem Ty.cnt_var {t : Ty} (h : t.kind = 1 ∧ (t.kids ≠ [] ∨ t.num ≠ 0)) (m : Int) : t.cnt m = m := by
  cases t; rw [Ty.cnt]; exact if_pos h
theorem Ty.cnt_not {t : Ty} (h : ¬ (t.kind = 1 ∧ (t.kids ≠ [] ∨ t.num ≠ 0))) (m : Int) : t.cnt m = Ty.cnts t.kids 1 m := by
  cases t; rw [Ty.cnt]; exact if_neg h
/-- texts, and numbers, as elements of slices -/
def strs (xs : List ByteArray) : List (List AV) := xs.map fun s => [.val (.string s)]
def nums (xs : List Int) : List (List AV) := xs.map fun s => [.val (.int .i64 s)]
theorem strs_len (xs : List ByteArray) : (strs xs).length = xs.length := by simp [strs]
theorem nums_len (xs : List Int) : (nums xs).length = xs.length := by simp [nums]
theorem strs_get {xs : List ByteArray} {i : Nat} {s : ByteArray} (h : xs[i]? = some s) : (strs xs)[i]? = some [.val (.string s)] := by simp [strs, h]
theorem nums_get {xs : List Int} {i : Nat} {s : Int} (h : xs[i]? = some s) : (nums xs)[i]? = some [.val (.int .i64 s)] := by simp [nums, h]
theorem strs_app (a b : List ByteArray) : strs (a ++ b) = strs a ++ strs b := by simp [strs]
theorem nums_app (a b : List Int) : nums (a ++ b) = nums a ++ nums b := by simp [nums]
/-- two lists are held against each other, place by place -/
def Upto {α : Type} (xs ys : List α) (i : Nat) : Prop := ∀ j, j < i → xs[j]? = ys[j]?
theorem Upto.zero {α : Type} (xs ys : List α) : Upto xs ys 0 := fun j hj => by omega
theorem Upto.succ {α : Type} {xs ys : List α} {i : Nat} {x y : α} (h : Upto xs ys i) (hx : xs[i]? = some x) (hy : ys[i]? = some y) (e : x = y) : Upto xs ys (i + 1) := fun j hj => by
  by_cases q : j = i
  · subst q; rw [hx, hy, e]
  · exact h j (by omega)
theorem Upto.eq {α : Type} {xs ys : List α} {i : Nat} (h : Upto xs ys i) (hl : xs.length = ys.length) (hi : xs.length ≤ i) : xs = ys := by
  apply List.ext_getElem?
  intro j
  rcases Nat.lt_or_ge j xs.length with k | k
  · exact h j (by omega)
  · rw [List.getElem?_eq_none k, List.getElem?_eq_none (by omega)]
theorem at_ne {α : Type} {xs ys : List α} {i : Nat} {x y : α} (hx : xs[i]? = some x) (hy : ys[i]? = some y) (e : x ≠ y) : ¬ xs = ys := fun h => by
  subst h; rw [hx] at hy; simp at hy; exact e hy
theorem len_ne {α : Type} {xs ys : List α} (h : xs.length ≠ ys.length) : ¬ xs = ys := fun e => h (by rw [e])
end Go.Proofs.Ytflkdojahfmbnaa
