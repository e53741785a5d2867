/- Slices that are read: a slice value of n elements, each of so many cells, whose cells are xs. -/
import Derived.WalkKit
import Derived.Lib.Hide
namespace Go.Proofs.Ytecpnlhjjmcllaa
open Go.RowKit
/-- the address of a slice of n elements (none: only if there are none) and its cells -/
def SlAt (w : World) (ao : Option Addr) (size n : Nat) (xs : List Value) : Prop :=
  xs.length = n * size ∧ (n = 0 ∨ ∃ b off, ao = some ⟨b, off, none⟩ ∧ ∀ j, j < n * size → w.cell? ⟨b, off + j, none⟩ = xs[j]?)
theorem SlAt.len {w : World} {ao : Option Addr} {size n : Nat} {xs : List Value} (h : SlAt w ao size n xs) : xs.length = n * size := h.1
theorem SlAt.get {w : World} {ao : Option Addr} {size n : Nat} {xs : List Value} (h : SlAt w ao size n xs) (hn : 0 < n) :
    ∃ b off, ao = some ⟨b, off, none⟩ ∧ ∀ j, j < n * size → w.cell? ⟨b, off + j, none⟩ = xs[j]? := by
  rcases h.2 with h | h
  · omega
  · exact h
theorem SlAt.nil (w : World) (ao : Option Addr) (size : Nat) : SlAt w ao size 0 [] := ⟨by simp, Or.inl rfl⟩
theorem cell_lt {w : World} {b o : Nat} {x : Value} (h : w.cell? ⟨b, o, none⟩ = some x) : b < w.heap.size := by
  unfold World.cell? at h
  rcases Nat.lt_or_ge b w.heap.size with k | k
  · exact k
  · rw [Array.getElem?_eq_none (by exact k)] at h; simp at h
theorem SlAt.below {w w' : World} {ao : Option Addr} {size n : Nat} {xs : List Value} (h : SlAt w ao size n xs) (hb : Below w.heap.size w w') : SlAt w' ao size n xs := by
  refine ⟨h.1, ?_⟩
  rcases h.2 with e | ⟨b, off, e, hc⟩
  · exact Or.inl e
  · refine Or.inr ⟨b, off, e, fun j hj => ?_⟩
    have hx := hc j hj
    have hlt : b < w.heap.size := by
      have hj' : j < xs.length := by rw [h.1]; exact hj
      rw [List.getElem?_eq_getElem hj'] at hx
      exact cell_lt hx
    rw [hb.cell (p := ⟨b, off + j, none⟩) hlt]; exact hx
theorem SlAt.of_own {w : World} {base : Nat} {e : TypeId} {size : Nat} {v : Value} {n : Nat} {xs : List Value} (h : w.ownsRow base e size v n xs) :
    ∃ ao cap, v = .slice ao n cap ∧ SlAt w ao size n xs := by
  have h' := h
  rcases h.2 with ⟨rfl, rfl⟩ | ⟨g, cap, cur, rfl, _⟩
  · exact ⟨none, 0, rfl, h.1, Or.inl rfl⟩
  · exact ⟨some ⟨g, 0, none⟩, cap, rfl, h.1, Or.inr ⟨g, 0, rfl, fun j hj => by rw [Nat.zero_add]; exact h'.cellAt j hj⟩⟩
end Go.Proofs.Ytecpnlhjjmcllaa
