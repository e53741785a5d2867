/- Types as plain data, on: types with others in places that are told. -/
import Derived.Test.YtjgjnheeohfmmaaPA
namespace Go.Proofs.Ytjgjnheeohfmmaa
mutual
def Ty.turn (o : Ty → Option Ty) : Ty → Ty
  | .mk k s n ks => match o (.mk k s n ks) with
    | some y => y
    | none => .mk k s n (Ty.turns o ks)
def Ty.turns (o : Ty → Option Ty) : List Ty → List Ty
  | [] => []
  | t :: ts => t.turn o :: Ty.turns o ts
end
theorem Ty.turns_map (o : Ty → Option Ty) : ∀ ts : List Ty, Ty.turns o ts = ts.map (Ty.turn o)
  | [] => by simp [Ty.turns]
  | t :: ts => by simp [Ty.turns, Ty.turns_map o ts]
theorem Ty.turn_some {o : Ty → Option Ty} {t y : Ty} (h : o t = some y) : t.turn o = y := by
  obtain ⟨k, s, n, ks⟩ := t
  rw [Ty.turn, h]
theorem Ty.turn_none {o : Ty → Option Ty} {k : Int} {s : ByteArray} {n : Int} {ks : List Ty} (h : o (.mk k s n ks) = none) : (Ty.mk k s n ks).turn o = .mk k s n (Ty.turns o ks) := by
  rw [Ty.turn, h]
theorem Ty.turns_len (o : Ty → Option Ty) (ts : List Ty) : (Ty.turns o ts).length = ts.length := by rw [Ty.turns_map]; simp
theorem Ty.turns_snoc (o : Ty → Option Ty) (ts : List Ty) (x : Ty) : Ty.turns o (ts ++ [x]) = Ty.turns o ts ++ [x.turn o] := by simp [Ty.turns_map]
mutual
theorem Ty.turn_id : ∀ t : Ty, t.turn (fun _ => none) = t
  | .mk k s n ks => by rw [Ty.turn_none rfl, Ty.turns_id ks]
theorem Ty.turns_id : ∀ ts : List Ty, Ty.turns (fun _ => none) ts = ts
  | [] => by rw [Ty.turns]
  | t :: ts => by rw [Ty.turns, Ty.turn_id t, Ty.turns_id ts]
end
/-- the first place of x in a row; -1: none -/
def firstAt {α : Type} [DecidableEq α] (x : α) : List α → Nat → Int
  | [], _ => -1
  | y :: ys, i => if x = y then i else firstAt x ys (i + 1)
theorem firstAt_drop {α : Type} [DecidableEq α] (x : α) : ∀ (xs : List α) (i : Nat), x ∉ xs.take i → firstAt x (xs.drop i) i = firstAt x xs 0 := by
  have key : ∀ (xs : List α) (i k : Nat), x ∉ xs.take i → firstAt x xs k = firstAt x (xs.drop i) (k + i) := by
    intro xs
    induction xs with
    | nil => intro i k _; simp [firstAt]
    | cons y ys ih =>
      intro i k h
      cases i with
      | zero => simp
      | succ i =>
        simp only [List.take_succ_cons, List.mem_cons, not_or] at h
        rw [firstAt, if_neg h.1, List.drop_succ_cons, ih i (k + 1) h.2]
        congr 1; omega
  intro xs i h
  have := key xs i 0 h
  rw [this]; congr 1; omega
theorem firstAt_nonneg {α : Type} [DecidableEq α] (x : α) : ∀ (xs : List α) (k : Nat), 0 ≤ firstAt x xs k ↔ x ∈ xs
  | [], k => by simp [firstAt]
  | y :: ys, k => by
    rw [firstAt]
    by_cases e : x = y
    · simp [e]
    · rw [if_neg e, firstAt_nonneg x ys (k + 1)]; simp [e]
theorem firstAt_lt {α : Type} [DecidableEq α] (x : α) : ∀ (xs : List α) (k : Nat), firstAt x xs k < k + xs.length
  | [], k => by simp [firstAt]; omega
  | y :: ys, k => by
    rw [firstAt]
    split
    · simp; omega
    · have := firstAt_lt x ys (k + 1); simp at this ⊢; omega
theorem firstAt_at {α : Type} [DecidableEq α] {x : α} {xs : List α} {i : Nat} (h : x ∉ xs.take i) (hx : xs[i]? = some x) : firstAt x xs 0 = i := by
  rw [← firstAt_drop x xs i h, drop_at hx, firstAt, if_pos rfl]
theorem firstAt_out {α : Type} [DecidableEq α] {x : α} {xs : List α} (h : x ∉ xs) : firstAt x xs 0 = -1 := by
  have := firstAt_drop x xs xs.length (by simpa using h)
  rw [← this]; simp [firstAt]
theorem not_mem_take {α : Type} {xs : List α} {i : Nat} {x y : α} (h : x ∉ xs.take i) (hx : xs[i]? = some y) (e : ¬ y = x) : x ∉ xs.take (i + 1) := by
  rw [take_snoc hx, List.mem_append]
  rintro (q | q)
  · exact h q
  · simp at q; exact e q.symm
/-- what stands for a variable -/
def putO (names : List ByteArray) (ts : List Ty) (x : Ty) : Option Ty := if x.kind = 1 ∧ 0 ≤ firstAt x.name names 0 then ts[(firstAt x.name names 0).toNat]? else none
theorem putO_not {names : List ByteArray} {ts : List Ty} {k : Int} {s : ByteArray} {n : Int} {ks : List Ty} (h : k ≠ 1) : putO names ts (.mk k s n ks) = none := if_neg (fun q => h q.1)
theorem putO_out {names : List ByteArray} {ts : List Ty} {k : Int} {s : ByteArray} {n : Int} {ks : List Ty} (h : firstAt s names 0 < 0) : putO names ts (.mk k s n ks) = none := if_neg (fun q => by have := q.2; simp only [Ty.name] at this; omega)
theorem putO_big {names : List ByteArray} {ts : List Ty} {k : Int} {s : ByteArray} {n : Int} {ks : List Ty} (h : (ts.length : Int) ≤ firstAt s names 0) : putO names ts (.mk k s n ks) = none := by
  unfold putO
  split
  · exact List.getElem?_eq_none (by simp only [Ty.name]; omega)
  · rfl
theorem putO_in {names : List ByteArray} {ts : List Ty} {s : ByteArray} {n : Int} {ks : List Ty} {j : Nat} (h : firstAt s names 0 = j) : putO names ts (.mk 1 s n ks) = ts[j]? := by
  unfold putO
  simp only [Ty.kind, Ty.name, h]
  rw [if_pos ⟨trivial, by omega⟩]
  simp
/-- what stands for a meta: the first of its number -/
def applyO (subs : List (Int × Ty)) (x : Ty) : Option Ty := if x.kind = 2 then (subs.find? (fun p => p.1 == x.num)).map (·.2) else none
def subCells (p : Int × Ty) : List AV := .val (.int .i64 p.1) :: p.2.cells
def subss (subs : List (Int × Ty)) : List (List AV) := subs.map subCells
theorem subss_len (subs : List (Int × Ty)) : (subss subs).length = subs.length := by simp [subss]
theorem subss_get {subs : List (Int × Ty)} {i : Nat} {p : Int × Ty} (h : subs[i]? = some p) : (subss subs)[i]? = some (subCells p) := by simp [subss, h]
theorem applyO_not {subs : List (Int × Ty)} {k : Int} {s : ByteArray} {n : Int} {ks : List Ty} (h : k ≠ 2) : applyO subs (.mk k s n ks) = none := if_neg h
/-- the first place where p holds; -1: none -/
def firstP {α : Type} (p : α → Bool) : List α → Nat → Int
  | [], _ => -1
  | y :: ys, i => if p y then i else firstP p ys (i + 1)
theorem firstP_drop {α : Type} (p : α → Bool) : ∀ (xs : List α) (i : Nat), (∀ x ∈ xs.take i, p x = false) → firstP p (xs.drop i) i = firstP p xs 0 := by
  have key : ∀ (xs : List α) (i k : Nat), (∀ x ∈ xs.take i, p x = false) → firstP p xs k = firstP p (xs.drop i) (k + i) := by
    intro xs
    induction xs with
    | nil => intro i k _; simp [firstP]
    | cons y ys ih =>
      intro i k h
      cases i with
      | zero => simp
      | succ i =>
        simp only [List.take_succ_cons, List.mem_cons] at h
        have h1 := h y (Or.inl rfl)
        rw [firstP, h1, List.drop_succ_cons, ih i (k + 1) (fun x hx => h x (Or.inr hx))]
        simp only [Bool.false_eq_true, if_false]
        congr 1; omega
  intro xs i h
  have := key xs i 0 h
  rw [this]; congr 1; omega
theorem firstP_find {α : Type} (p : α → Bool) : ∀ (xs : List α) (k : Nat), (firstP p xs k < 0 → xs.find? p = none) ∧ (∀ j : Nat, firstP p xs k = j → k ≤ j ∧ xs.find? p = xs[j - k]? ∧ j - k < xs.length)
  | [], k => by simp [firstP]
  | y :: ys, k => by
    rw [firstP]
    cases hp : p y
    · simp only [Bool.false_eq_true, if_false]
      obtain ⟨h1, h2⟩ := firstP_find p ys (k + 1)
      refine ⟨fun h => by rw [List.find?_cons, hp]; exact h1 h, fun j hj => ?_⟩
      obtain ⟨q1, q2, q3⟩ := h2 j hj
      refine ⟨by omega, ?_, by simp; omega⟩
      rw [List.find?_cons, hp, q2, show j - k = (j - (k + 1)) + 1 from by omega]
      simp
    · simp only [if_true]
      refine ⟨fun h => by omega, fun j hj => ?_⟩
      have : j = k := by omega
      subst this
      simp [hp]
end Go.Proofs.Ytjgjnheeohfmmaa
