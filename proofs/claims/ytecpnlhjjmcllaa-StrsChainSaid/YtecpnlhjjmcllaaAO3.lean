/- Arguments that are one cell. -/
import Derived.Test.YtecpnlhjjmcllaaAO2
namespace Go.Proofs.Ytecpnlhjjmcllaa
open Go.RowKit
theorem okw_slice {P : Program} {W : World} {r : Reach} {b : Nat} {t e : TypeId} {v : Value} (ht : P.underlying t = some (.slice e)) (h : Value.okWide P W r b t v) : ∀ a, v ≠ .agg a := by
  rintro a rfl
  unfold Value.okWide at h
  rw [ht] at h
  simp only [Cell.okWide, Cell.ok, ht] at h
theorem okw_str {P : Program} {W : World} {r : Reach} {b : Nat} {t : TypeId} {v : Value} (ht : P.underlying t = some .string) (h : Value.okWide P W r b t v) : ∀ a, v ≠ .agg a := by
  rintro a rfl
  unfold Value.okWide at h
  rw [ht] at h
  simp only [Cell.okWide, Cell.ok, ht] at h
end Go.Proofs.Ytecpnlhjjmcllaa
