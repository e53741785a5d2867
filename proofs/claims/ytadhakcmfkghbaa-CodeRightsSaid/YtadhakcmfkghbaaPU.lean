/- Types as plain data, on: types with others in places that are told. -/
import Derived.Test.YtadhakcmfkghbaaPA
namespace Go.Proofs.Ytadhakcmfkghbaa
mutual
def Ty.turn (o : Ty → Option Ty) : Ty → Ty
  | .mk k s n ks => match o (.mk k s n ks) with
    | some y => y
    | none => .mk k s n (Ty.turns o ks)
def Ty.turns (o : Ty → Option Ty) : List Ty → List Ty
  | [] => []
  | t :: ts => t.turn o :: Ty.turns o ts
end
def firstAt {α : Type} [DecidableEq α] (x : α) : List α → Nat → Int
  | [], _ => -1
  | y :: ys, i => if x = y then i else firstAt x ys (i + 1)
theorem firstAt_drop {α : Type} [DecidableEq α] (x : α) : ∀ (xs : List α) (i : Nat), x ∉ xs.take i → firstAt x (xs.drop i) i = firstAt x xs 0 := by
  have key : ∀ (xs : List α) (i k : Nat), x ∉ xs.take i → firstAt x xs k = firstAt x (xs.drop i) (k + i) := by
    intro xs
    induction xs with
    | nil => intro i k _; simp [firstAt]
    | cons y ys ih =>
      intro i k h
      cases i with
      | zero => simp
      | succ i =>
        simp only [List.take_succ_cons, List.mem_cons, not_or] at h
        rw [firstAt, if_neg h.1, List.drop_succ_cons, ih i (k + 1) h.2]
        congr 1; omega
  intro xs i h
  have := key xs i 0 h
  rw [this]; congr 1; omega
theorem firstAt_nonneg {α : Type} [DecidableEq α] (x : α) : ∀ (xs : List α) (k : Nat), 0 ≤ firstAt x xs k ↔ x ∈ xs
  | [], k => by simp [firstAt]
  | y :: ys, k => by
    rw [firstAt]
    by_cases e : x = y
    · simp [e]
    · rw [if_neg e, firstAt_nonneg x ys (k + 1)]; simp [e]
theorem not_mem_take {α : Type} {xs : List α} {i : Nat} {x y : α} (h : x ∉ xs.take i) (hx : xs[i]? = some y) (e : ¬ y = x) : x ∉ xs.take (i + 1) := by
  rw [take_snoc hx, List.mem_append]
  rintro (q | q)
  · exact h q
  · simp at q; exact e q.symm
end Go.Proofs.Ytadhakcmfkghbaa
