/- Plain arithmetic of 63-bit integers: what the functions of layer 1 compute, over Int, with no program in sight. -/
import Derived.RowKit
import Derived.Laws.Bits64
namespace Go.Proofs.Ythibocdpbekbcaa
open Go.RowKit
/-- the 63-bit integer that a number means -/
def W63 (n : Int) : Int := (n + 4611686018427387904) % 9223372036854775808 - 4611686018427387904
theorem W63_bd (n : Int) : -4611686018427387904 ≤ W63 n ∧ W63 n ≤ 4611686018427387903 := by unfold W63; omega
theorem W63_lo (n : Int) : -4611686018427387904 ≤ W63 n := (W63_bd n).1
theorem W63_hi (n : Int) : W63 n ≤ 4611686018427387903 := (W63_bd n).2
theorem W63_shift (n : Int) : wrap64 (n * 2) / 2 = W63 n := by unfold wrap64 W63; omega
theorem W63_wrap (n : Int) : W63 (wrap64 n) = W63 n := by unfold wrap64 W63; omega
theorem W63_id (n : Int) (h1 : -4611686018427387904 ≤ n) (h2 : n ≤ 4611686018427387903) : W63 n = n := by unfold W63; omega
theorem W63_congr {a b : Int} (h : a % 9223372036854775808 = b % 9223372036854775808) : W63 a = W63 b := by unfold W63; omega
theorem W63_mod (n : Int) : W63 n % 9223372036854775808 = n % 9223372036854775808 := by unfold W63; omega
theorem W63_W63 (n : Int) : W63 (W63 n) = W63 n := W63_congr (W63_mod n)
theorem W63_mul_l (a b : Int) : W63 (W63 a * b) = W63 (a * b) := W63_congr (by rw [Int.mul_emod, W63_mod, ← Int.mul_emod])
theorem W63_mul_r (a b : Int) : W63 (a * W63 b) = W63 (a * b) := W63_congr (by rw [Int.mul_emod, W63_mod, ← Int.mul_emod])
theorem W63_add_l (a b : Int) : W63 (W63 a + b) = W63 (a + b) := by unfold W63; omega
theorem W63_add_r (a b : Int) : W63 (a + W63 b) = W63 (a + b) := by unfold W63; omega
theorem W63_sub_l (a b : Int) : W63 (W63 a - b) = W63 (a - b) := by unfold W63; omega
/-- the rest modulo 2^63 -/
def R63 (n : Int) : Int := n % 9223372036854775808
theorem R63_lo (n : Int) : 0 ≤ R63 n := by unfold R63; omega
theorem R63_hi (n : Int) : R63 n ≤ 9223372036854775807 := by unfold R63; omega
theorem R63_u64 (n : Int) : (IntKind.u64.wrap n).tmod 9223372036854775808 = R63 n := by
  rw [Int.tmod_eq_emod_of_nonneg (by simp [IntKind.wrap_u64]; omega)]
  simp only [IntKind.wrap_u64, R63]; omega
theorem W63_R63 (n : Int) : W63 (R63 n) = W63 n := W63_congr (by unfold R63; omega)
theorem mulmod_aux (A B k M : Int) : (A % M + (B % M) * k) % M = (A + B * k) % M := by
  rw [Int.emod_add_emod, Int.add_emod A (B % M * k), Int.add_emod A (B * k), Int.mul_emod (B % M) k, Int.emod_emod, ← Int.mul_emod]
theorem mul_odd (x y s : Int) (h : y % 2 = 1) : W63 ((s + x) % 9223372036854775808 + (2 * x % 9223372036854775808) * (y / 2)) = W63 (s + x * y) := by
  apply W63_congr
  rw [mulmod_aux]
  have hy : y = 2 * (y / 2) + 1 := by omega
  generalize y / 2 = k at *
  subst hy
  rw [show s + x + 2 * x * k = s + x * (2 * k + 1) from by rw [Int.mul_add, Int.mul_one, ← Int.mul_assoc, Int.mul_comm x 2]; omega]
theorem mul_even (x y s : Int) (h : y % 2 = 0) : W63 (s + (2 * x % 9223372036854775808) * (y / 2)) = W63 (s + x * y) := by
  apply W63_congr
  rw [← Int.emod_add_emod, mulmod_aux]
  have hy : y = 2 * (y / 2) := by omega
  generalize y / 2 = k at *
  subst hy
  rw [show s + 2 * x * k = s + x * (2 * k) from by rw [← Int.mul_assoc, Int.mul_comm x 2]]
theorem mul_start (a b : Int) : W63 (0 + R63 a * R63 b) = W63 (a * b) := W63_congr (by unfold R63; rw [Int.zero_add, ← Int.mul_emod])
end Go.Proofs.Ythibocdpbekbcaa
