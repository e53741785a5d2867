/- An argument that is a slice of integers, opened: its address, length and cells. -/
import Derived.ProofKit
import Derived.OpenShut
import Derived.SliceStrings
import Derived.Test.YtecpnlhjjmcllaaSL
namespace Go.Proofs.Ytecpnlhjjmcllaa
open Go.ChangeShapes Go.WideShapes Go.ChangeAt Go.RowKit
section
variable {H : Type} {enc : TypeId × Value → H} {P : Program} {w : World}
theorem addr_plain {a : Addr} {i : Nat} {v : Value} (h : w.cell? (a.add i) = some v) : a.add i = ⟨a.block, a.off + i, none⟩ := by
  have hs : (a.add i).spot = none := by
    unfold World.cell? at h
    split at h
    · split at h
      · simp at h
      · rename_i hh; simpa using hh
    · simp at h
  obtain ⟨b, off, sp⟩ := a
  unfold Addr.add at hs ⊢
  split at hs <;> simp_all
theorem open_intSlice {t e : TypeId} {k : IntKind} {base sp held} {v : Value} {d : DataW H} {ps : List MemPlace} {r : Reach} {b0 : Nat} (ht : P.underlying t = some (.slice e)) (he : P.underlying e = some (.int k)) (hc : P.cellsOf e = 1)
    (hval : Value.okWide P w r b0 t v) (h : DataW.Trod enc P w base sp held t v d ps) :
    ∃ (ao : Option Addr) (n cap : Nat) (zs : List Int), v = .slice ao n cap ∧ SlAt w ao 1 n (zs.map (Value.int k)) ∧ n ≤ cap ∧ cap ≤ maxLen ∧ (∀ z ∈ zs, (Lit.int k z).wf = true) := by
  obtain ⟨a0, len, cap, rfl⟩ := okWide_slice ht hval
  obtain ⟨fuel, hf⟩ := h
  rcases open_ints ht he hc hf with ⟨hcs, hx⟩ | ⟨a, len', cap', zs, hcs, _, hl, hm, hz, hx, hcell, hwz⟩
  · simp [Value.cells] at hcs
    obtain ⟨rfl, rfl, rfl⟩ := hcs
    exact ⟨none, 0, 0, [], rfl, SlAt.nil _ _ _, Nat.le_refl _, Nat.zero_le _, by simp⟩
  · simp [Value.cells] at hcs
    obtain ⟨rfl, rfl, rfl⟩ := hcs
    have hzl : len ≤ zs.length := by rw [hz]; split <;> omega
    refine ⟨some a, len, cap, zs.take len, rfl, ⟨by simp; omega, ?_⟩, hl, hm, fun z hz' => hwz z (List.mem_of_mem_take hz')⟩
    by_cases h0 : len = 0
    · exact Or.inl h0
    · have h1 := addr_plain (hcell 0 (by omega))
      rw [show a.add 0 = a from by simp [Addr.add]] at h1
      refine Or.inr ⟨a.block, a.off, congrArg some h1, fun j hj => ?_⟩
      have hj' : j < len := by omega
      have h2 := hcell j (by omega)
      rw [addr_plain h2] at h2
      rw [h2]
      simp [hj', List.getD, (show j < zs.length by omega)]
theorem open_strSlice {t e : TypeId} {base sp held} {v : Value} {d : DataW H} {ps : List MemPlace} {r : Reach} {b0 : Nat} (ht : P.underlying t = some (.slice e)) (he : P.underlying e = some .string) (hc : P.cellsOf e = 1)
    (hval : Value.okWide P w r b0 t v) (h : DataW.Trod enc P w base sp held t v d ps) :
    ∃ (ao : Option Addr) (n cap : Nat) (ss : List ByteArray), v = .slice ao n cap ∧ SlAt w ao 1 n (ss.map Value.string) ∧ n ≤ cap ∧ cap ≤ maxLen ∧ (∀ s ∈ ss, s.size ≤ maxLen) := by
  obtain ⟨a0, len, cap, rfl⟩ := okWide_slice ht hval
  obtain ⟨fuel, hf⟩ := h
  rcases open_strings ht he hc hf with ⟨hcs, hx⟩ | ⟨a, len', cap', zs, hcs, _, hl, hm, hz, hx, hcell, hwz⟩
  · simp [Value.cells] at hcs
    obtain ⟨rfl, rfl, rfl⟩ := hcs
    exact ⟨none, 0, 0, [], rfl, SlAt.nil _ _ _, Nat.le_refl _, Nat.zero_le _, by simp⟩
  · simp [Value.cells] at hcs
    obtain ⟨rfl, rfl, rfl⟩ := hcs
    have hzl : len ≤ zs.length := by rw [hz]; split <;> omega
    refine ⟨some a, len, cap, zs.take len, rfl, ⟨by simp; omega, ?_⟩, hl, hm, fun z hz' => hwz z (List.mem_of_mem_take hz')⟩
    by_cases h0 : len = 0
    · exact Or.inl h0
    · have h1 := addr_plain (hcell 0 (by omega))
      rw [show a.add 0 = a from by simp [Addr.add]] at h1
      refine Or.inr ⟨a.block, a.off, congrArg some h1, fun j hj => ?_⟩
      have hj' : j < len := by omega
      have h2 := hcell j (by omega)
      rw [addr_plain h2] at h2
      rw [h2]
      simp [hj', List.getD, (show j < zs.length by omega)]
end
end Go.Proofs.Ytecpnlhjjmcllaa
