/- Plain arithmetic of 63-bit integers: what the functions of layer 1 compute, over Int, with no program in sight. -/
import Derived.RowKit
import Derived.Laws.Bits64
namespace Go.Proofs.Ytflkdojahfmbnaa
open Go.RowKit
/-- the 63-bit integer that a number means -/
def W63 (n : Int) : Int := (n + 4611686018427387904) % 9223372036854775808 - 4611686018427387904
theorem W63_bd (n : Int) : -4611686018427387904 ≤ W63 n ∧ W63 n ≤ 4611686018427387903 := by unfold W63; omega
theorem W63_lo (n : Int) : -4611686018427387904 ≤ W63 n := (W63_bd n).1
theorem W63_hi (n : Int) : W63 n ≤ 4611686018427387903 := (W63_bd n).2
theorem W63_shift (n : Int) : wrap64 (n * 2) / 2 = W63 n := by unfold wrap64 W63; omega
theorem W63_wrap (n : Int) : W63 (wrap64 n) = W63 n := by unfold wrap64 W63; omega
theorem W63_id (n : Int) (h1 : -4611686018427387904 ≤ n) (h2 : n ≤ 4611686018427387903) : W63 n = n := by unfold W63; omega
theorem W63_congr {a b : Int} (h : a % 9223372036854775808 = b % 9223372036854775808) : W63 a = W63 b := by unfold W63; omega
theorem W63_mod (n : Int) : W63 n % 9223372036854775808 = n % 9223372036854775808 := by unfold W63; omega
theorem W63_W63 (n : Int) : W63 (W63 n) = W63 n := W63_congr (W63_mod n)
theorem W63_mul_l (a b : Int) : W63 (W63 a * b) = W63 (a * b) := W63_congr (by rw [Int.mul_emod, W63_mod, ← Int.mul_emod])
theorem W63_mul_r (a b : Int) : W63 (a * W63 b) = W63 (a * b) := W63_congr (by rw [Int.mul_emod, W63_mod, ← Int.mul_emod])
theorem W63_add_l (a b : Int) : W63 (W63 a + b) = W63 (a + b) := by unfold W63; omega
theorem W63_add_r (a b : Int) : W63 (a + W63 b) = W63 (a + b) := by unfold W63; omega
theorem W63_sub_l (a b : Int) : W63 (W63 a - b) = W63 (a - b) := by unfold W63; omega
/-- the rest modulo 2^63 -/
def R63 (n : Int) : Int := n % 9223372036854775808
theorem R63_lo (n : Int) : 0 ≤ R63 n := by unfold R63; omega
theorem R63_hi (n : Int) : R63 n ≤ 9223372036854775807 := by unfold R63; omega
theorem R63_u64 (n : Int) : (IntKind.u64.wrap n).tmod 9223372036854775808 = R63 n := by
  rw [Int.tmod_eq_emod_of_nonneg (by simp [IntKind.wrap_u64]; omega)]
  simp only [IntKind.wrap_u64, R63]; omega
theorem W63_R63 (n : Int) : W63 (R63 n) = W63 n := W63_congr (by unfold R63; omega)
theorem mulmod_aux (A B k M : Int) : (A % M + (B % M) * k) % M = (A + B * k) % M := by
  rw [Int.emod_add_emod, Int.add_emod A (B % M * k), Int.add_emod A (B * k), Int.mul_emod (B % M) k, Int.emod_emod, ← Int.mul_emod]
theorem mul_odd (x y s : Int) (h : y % 2 = 1) : W63 ((s + x) % 9223372036854775808 + (2 * x % 9223372036854775808) * (y / 2)) = W63 (s + x * y) := by
  apply W63_congr
  rw [mulmod_aux]
  have hy : y = 2 * (y / 2) + 1 := by omega
  generalize y / 2 = k at *
  subst hy
  rw [show s + x + 2 * x * k = s + x * (2 * k + 1) from by rw [Int.mul_add, Int.mul_one, ← Int.mul_assoc, Int.mul_comm x 2]; omega]
theorem mul_even (x y s : Int) (h : y % 2 = 0) : W63 (s + (2 * x % 9223372036854775808) * (y / 2)) = W63 (s + x * y) := by
  apply W63_congr
  rw [← Int.emod_add_emod, mulmod_aux]
  have hy : y = 2 * (y / 2) := by omega
  generalize y / 2 = k at *
  subst hy
  rw [show s + 2 * x * k = s + x * (2 * k) from by rw [← Int.mul_assoc, Int.mul_comm x 2]]
theorem mul_start (a b : Int) : W63 (0 + R63 a * R63 b) = W63 (a * b) := W63_congr (by unfold R63; rw [Int.zero_add, ← Int.mul_emod])
/-- an integer without its sign; a size with a sign -/
def absI (x : Int) : Int := if x < 0 then -x else x
def sgn (u : Int) (neg : Bool) : Int := if neg then -u else u
theorem absI_lo (x : Int) : 0 ≤ absI x := by unfold absI; omega
theorem absI_W63 (n : Int) : absI (W63 n) ≤ 4611686018427387904 := by have := W63_bd n; unfold absI; omega
theorem absI_pos {x : Int} (h : x ≠ 0) : 1 ≤ absI x := by unfold absI; omega
theorem absI_neg {X : Int} (h : 0 < X) : absI (-X) = X := by unfold absI; omega
theorem absI_nn {x : Int} (h : 0 ≤ x) : absI x = x := by unfold absI; omega
theorem dec_neg {X : Int} (h : 0 < X) : decide (-X < 0) = true := by simp; omega
theorem dec_nn {x : Int} (h : 0 ≤ x) : decide (x < 0) = false := by simp; omega
theorem sgn_quo (x y : Int) : sgn (absI x / absI y) (decide (x < 0) != decide (y < 0)) = x.tdiv y := by
  rcases Int.lt_or_le x 0 with hx | hx
  · obtain ⟨X, rfl⟩ : ∃ X : Int, x = -X := ⟨-x, by omega⟩
    have hX : 0 < X := by omega
    rcases Int.lt_or_le y 0 with hy | hy
    · obtain ⟨Y, rfl⟩ : ∃ Y : Int, y = -Y := ⟨-y, by omega⟩
      have hY : 0 < Y := by omega
      rw [absI_neg hX, absI_neg hY, dec_neg hX, dec_neg hY, Int.neg_tdiv, Int.tdiv_neg, Int.neg_neg, Int.tdiv_eq_ediv_of_nonneg (by omega)]
      rfl
    · rw [absI_neg hX, absI_nn hy, dec_neg hX, dec_nn hy, Int.neg_tdiv, Int.tdiv_eq_ediv_of_nonneg (by omega)]
      rfl
  · rcases Int.lt_or_le y 0 with hy | hy
    · obtain ⟨Y, rfl⟩ : ∃ Y : Int, y = -Y := ⟨-y, by omega⟩
      have hY : 0 < Y := by omega
      rw [absI_nn hx, absI_neg hY, dec_nn hx, dec_neg hY, Int.tdiv_neg, Int.tdiv_eq_ediv_of_nonneg (by omega)]
      rfl
    · rw [absI_nn hx, absI_nn hy, dec_nn hx, dec_nn hy, Int.tdiv_eq_ediv_of_nonneg (by omega)]
      rfl
theorem sgn_rem (x y : Int) : sgn (absI x % absI y) (decide (x < 0)) = x.tmod y := by
  rcases Int.lt_or_le x 0 with hx | hx
  · obtain ⟨X, rfl⟩ : ∃ X : Int, x = -X := ⟨-x, by omega⟩
    have hX : 0 < X := by omega
    rcases Int.lt_or_le y 0 with hy | hy
    · obtain ⟨Y, rfl⟩ : ∃ Y : Int, y = -Y := ⟨-y, by omega⟩
      have hY : 0 < Y := by omega
      rw [absI_neg hX, absI_neg hY, dec_neg hX, Int.neg_tmod, Int.tmod_neg, Int.tmod_eq_emod_of_nonneg (by omega)]
      rfl
    · rw [absI_neg hX, absI_nn hy, dec_neg hX, Int.neg_tmod, Int.tmod_eq_emod_of_nonneg (by omega)]
      rfl
  · rcases Int.lt_or_le y 0 with hy | hy
    · obtain ⟨Y, rfl⟩ : ∃ Y : Int, y = -Y := ⟨-y, by omega⟩
      have hY : 0 < Y := by omega
      rw [absI_nn hx, absI_neg hY, dec_nn hx, Int.tmod_neg, Int.tmod_eq_emod_of_nonneg (by omega)]
      rfl
    · rw [absI_nn hx, absI_nn hy, dec_nn hx, Int.tmod_eq_emod_of_nonneg (by omega)]
      rfl
theorem rem_lo (x y : Int) (hy : 1 ≤ y) : 0 ≤ absI x % y := Int.emod_nonneg _ (by omega)
theorem rem_le (x y : Int) (hy : 1 ≤ y) : absI x % y ≤ absI x := by
  have h := absI_lo x
  generalize absI x = a at *
  obtain ⟨A, rfl⟩ := Int.eq_ofNat_of_zero_le h
  obtain ⟨Y, rfl⟩ := Int.eq_ofNat_of_zero_le (show 0 ≤ y by omega)
  have := Nat.mod_le A Y
  show ((A % Y : Nat) : Int) ≤ A
  omega
theorem quo_lo (x y : Int) (hy : 1 ≤ y) : 0 ≤ absI x / y := Int.ediv_nonneg (absI_lo x) (by omega)
theorem quo_le (x y : Int) : absI x / y ≤ absI x := Int.ediv_le_self _ (absI_lo x)
theorem W63_sgn_rem (x y : Int) (h : y ≠ 0) (h1 : absI x ≤ 4611686018427387904) (h2 : x ≤ 4611686018427387903) : W63 (sgn (absI x % absI y) (decide (x < 0))) = x.tmod y := by
  have a1 := rem_lo x (absI y) (absI_pos h)
  have a2 := rem_le x (absI y) (absI_pos h)
  rw [← sgn_rem]
  apply W63_id
  · unfold sgn; split <;> omega
  · unfold sgn
    split
    · omega
    · rename_i hh
      have : absI x = x := absI_nn (by simp at hh; omega)
      omega
theorem back_sub (a b : Int) : W63 (W63 (a + b) - b) = W63 a := by unfold W63; omega
theorem back_dist (a b c : Int) : W63 (W63 (a * b) + W63 (a * c)) = W63 (a * W63 (b + c)) := by
  rw [W63_add_l, W63_add_r, W63_mul_r, Int.mul_add]
theorem back_quo (a b : Int) : W63 (W63 (W63 ((W63 a).tdiv (W63 b)) * b) + (W63 a).tmod (W63 b)) = W63 a := by
  rw [W63_add_l, W63_congr (a := W63 ((W63 a).tdiv (W63 b)) * b + (W63 a).tmod (W63 b)) (b := W63 a)]
  · exact W63_W63 a
  · rw [Int.add_emod, Int.mul_emod, W63_mod, ← W63_mod b, ← Int.mul_emod, ← Int.add_emod, Int.tdiv_mul_add_tmod]
end Go.Proofs.Ytflkdojahfmbnaa
