/- Types as plain data: a kind, a name, a number, and kids; their size, their sameness, and the count that the statements bound them by. -/
import Derived.Test.YtadhakcmfkghbaaAL7
namespace Go.Proofs.Ytadhakcmfkghbaa
open Go.RowKit
instance : DecidableEq ByteArray := fun a b => if h : a.toList = b.toList then isTrue (ba_eq h) else isFalse (fun e => h (by rw [e]))
inductive Ty where
  | mk (k : Int) (s : ByteArray) (n : Int) (ks : List Ty)
def Ty.kind : Ty → Int | .mk k _ _ _ => k
def Ty.name : Ty → ByteArray | .mk _ s _ _ => s
def Ty.num : Ty → Int | .mk _ _ n _ => n
def Ty.kids : Ty → List Ty | .mk _ _ _ ks => ks
mutual
def Ty.size : Ty → Nat
  | .mk _ _ _ ks => 1 + Ty.sizes ks
def Ty.sizes : List Ty → Nat
  | [] => 0
  | t :: ts => t.size + Ty.sizes ts
end
theorem Ty.size_pos (t : Ty) : 1 ≤ t.size := by cases t; simp [Ty.size]
theorem Ty.size_mem {t : Ty} : ∀ {ts : List Ty}, t ∈ ts → t.size ≤ Ty.sizes ts
  | [], h => by simp at h
  | u :: ts, h => by
    rw [Ty.sizes]
    rcases List.mem_cons.1 h with rfl | h
    · omega
    · have := Ty.size_mem h; omega
mutual
def Ty.cells : Ty → List AV
  | .mk k s n ks => [.val (.int .i64 k), .val (.string s), .val (.int .i64 n), .seq 4 (Ty.cellss ks)]
def Ty.cellss : List Ty → List (List AV)
  | [] => []
  | t :: ts => t.cells :: Ty.cellss ts
end
theorem Ty.cellss_map : ∀ ts : List Ty, Ty.cellss ts = ts.map Ty.cells
  | [] => by simp [Ty.cellss]
  | t :: ts => by simp [Ty.cellss, Ty.cellss_map ts]
theorem Ty.cellss_len (ts : List Ty) : (Ty.cellss ts).length = ts.length := by rw [Ty.cellss_map]; simp
theorem Ty.cellss_get {ts : List Ty} {i : Nat} {t : Ty} (h : ts[i]? = some t) : (Ty.cellss ts)[i]? = some t.cells := by rw [Ty.cellss_map]; simp [h]
theorem Ty.cellss_app (a b : List Ty) : Ty.cellss (a ++ b) = Ty.cellss a ++ Ty.cellss b := by simp [Ty.cellss_map]
theorem Ty.size_at {ts : List Ty} {i : Nat} {t : Ty} (h : ts[i]? = some t) : t.size ≤ Ty.sizes ts := Ty.size_mem (List.mem_of_getElem? h)
theorem get_some {α : Type} {l : List α} {i : Nat} (h : i < l.length) : ∃ x, l[i]? = some x := ⟨l[i], List.getElem?_eq_getElem h⟩
theorem drop_at {α : Type} {l : List α} {i : Nat} {x : α} (h : l[i]? = some x) : l.drop i = x :: l.drop (i + 1) := by
  have hi : i < l.length := by
    rcases Nat.lt_or_ge i l.length with k | k
    · exact k
    · rw [List.getElem?_eq_none k] at h; simp at h
  rw [List.drop_eq_getElem_cons hi]
  rw [List.getElem?_eq_getElem hi] at h
  simp at h
  rw [h]
mutual
def Ty.cnt : Ty → Int → Int
  | .mk k _ n ks, most => if k = 1 ∧ (ks ≠ [] ∨ n ≠ 0) then most else Ty.cnts ks 1 most
def Ty.cnts : List Ty → Int → Int → Int
  | [], n, _ => n
  | t :: ts, n, most => if n < most then Ty.cnts ts (n + t.cnt (most - n)) most else n
end
def Ty.small (t : Ty) (most : Int) : Bool := decide (t.cnt (most + 1) ≤ most)
def strs (xs : List ByteArray) : List (List AV) := xs.map fun s => [.val (.string s)]
def nums (xs : List Int) : List (List AV) := xs.map fun s => [.val (.int .i64 s)]
theorem strs_len (xs : List ByteArray) : (strs xs).length = xs.length := by simp [strs]
theorem nums_len (xs : List Int) : (nums xs).length = xs.length := by simp [nums]
theorem strs_get {xs : List ByteArray} {i : Nat} {s : ByteArray} (h : xs[i]? = some s) : (strs xs)[i]? = some [.val (.string s)] := by simp [strs, h]
theorem nums_get {xs : List Int} {i : Nat} {s : Int} (h : xs[i]? = some s) : (nums xs)[i]? = some [.val (.int .i64 s)] := by simp [nums, h]
def Upto {α : Type} (xs ys : List α) (i : Nat) : Prop := ∀ j, j < i → xs[j]? = ys[j]?
theorem Upto.zero {α : Type} (xs ys : List α) : Upto xs ys 0 := fun j hj => by omega
theorem Upto.succ {α : Type} {xs ys : List α} {i : Nat} {x y : α} (h : Upto xs ys i) (hx : xs[i]? = some x) (hy : ys[i]? = some y) (e : x = y) : Upto xs ys (i + 1) := fun j hj => by
  by_cases q : j = i
  · subst q; rw [hx, hy, e]
  · exact h j (by omega)
theorem Upto.eq {α : Type} {xs ys : List α} {i : Nat} (h : Upto xs ys i) (hl : xs.length = ys.length) (hi : xs.length ≤ i) : xs = ys := by
  apply List.ext_getElem?
  intro j
  rcases Nat.lt_or_ge j xs.length with k | k
  · exact h j (by omega)
  · rw [List.getElem?_eq_none k, List.getElem?_eq_none (by omega)]
end Go.Proofs.Ytadhakcmfkghbaa
