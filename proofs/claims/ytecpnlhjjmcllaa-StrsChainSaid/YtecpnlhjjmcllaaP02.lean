/- Plain arithmetic of words: what the functions of layer 2 compute. -/
import Derived.Test.YtecpnlhjjmcllaaP01
import Derived.Laws.BitsAllLaws
namespace Go.Proofs.Ytecpnlhjjmcllaa
open Go.RowKit
theorem or_join (i : Nat) (m x y : Int) (hm : m = ((2 ^ i : Nat) : Int)) (h0 : 0 ≤ x) (h1 : x < 18446744073709551616) (h2 : x % m = 0) (h3 : 0 ≤ y) (h4 : y < m) (h5 : y < 18446744073709551616) : bits .or .u64 x y = x + y := by
  rw [u64_or x y h0 h1 h3 h5, nat_join i]
  · omega
  · subst hm
    obtain ⟨X, rfl⟩ := Int.eq_ofNat_of_zero_le h0
    have : ((X % 2 ^ i : Nat) : Int) = 0 := h2
    rw [Int.toNat_natCast]; exact Int.ofNat.inj this
  · subst hm; omega
theorem and_mask (i : Nat) (x y : Int) (h0 : 0 ≤ x) (h1 : x < 18446744073709551616) (hy : y = ((2 ^ i - 1 : Nat) : Int)) (hy2 : y < 18446744073709551616) : bits .and .u64 x y = x % ((2 ^ i : Nat) : Int) := by
  rw [u64_and x y h0 h1 (by omega) hy2]
  subst hy
  rw [Int.toNat_natCast, Nat.and_two_pow_sub_one_eq_mod]
  obtain ⟨X, rfl⟩ := Int.eq_ofNat_of_zero_le h0
  simp
/-- layer 2's word of an integer -/
def intW (n : Int) : Int := 2 * R63 n + 1
theorem intW_shift (n : Int) : bits .or .u64 (IntKind.u64.wrap (IntKind.u64.wrap (W63 n) * 2)) 1 = intW n := by
  rw [or_join 1 2 _ 1 rfl]
  · simp only [IntKind.wrap_u64, intW, R63, W63]; omega
  all_goals (try simp only [IntKind.wrap_u64]); omega
def toI (w : Int) : Int := if w % 2 = 1 then W63 (w / 2) else 0
def isI (w : Int) : Bool := w % 2 == 1
def ptrOk (a : Int) : Bool := decide (0 ≤ a) && decide (a ≤ 4294967296)
def ptrW (a : Int) : Int := if ptrOk a then 2 * a else 0
def okE (b : Bool) : Int := if b then 0 else 2
theorem okE_0 (b : Bool) : (okE b == 0) = b := by cases b <;> rfl
theorem okE_2 (b : Bool) : (okE b == 2) = !b := by cases b <;> rfl
def atOk (w : Int) : Bool := w % 2 == 0 && decide (w ≤ 8589934592)
def atV (w : Int) : Int := if atOk w then w / 2 else 0
def headOk (k t s : Int) : Bool := decide (0 ≤ k) && decide (k ≤ 3) && decide (0 ≤ t) && decide (t ≤ 65535) && decide (0 ≤ s) && decide (s ≤ 16777216)
def headW (k t s : Int) : Int := if headOk k t s then 1048576 * s + 16 * t + 2 * k + 1 else 0
def openOk (w : Int) : Bool := w % 2 == 1 && decide (w / 1048576 ≤ 16777216) && decide (w / 2 % 8 ≤ 3)
def openK (w : Int) : Int := if openOk w then w / 2 % 8 else 0
def openT (w : Int) : Int := if openOk w then w / 16 % 65536 else 0
def openS (w : Int) : Int := if openOk w then w / 1048576 else 0
theorem head_or (k t s : Int) (h1 : 0 ≤ k) (h2 : k ≤ 3) (h3 : 0 ≤ t) (h4 : t ≤ 65535) (h5 : 0 ≤ s) (h6 : s ≤ 16777216) :
    bits .or .u64 (bits .or .u64 (bits .or .u64 (s * 1048576) (t * 16)) (k * 2)) 1 = 1048576 * s + 16 * t + 2 * k + 1 := by
  rw [or_join 20 1048576 (s * 1048576) (t * 16) rfl, or_join 4 16 _ (k * 2) rfl, or_join 1 2 _ 1 rfl]
  all_goals omega
theorem back_int (n : Int) : toI (intW n) = W63 n ∧ isI (intW n) = true := by
  constructor
  · unfold toI intW R63 W63; rw [if_pos (by omega)]; omega
  · unfold isI intW; simp
theorem intW_lo (n : Int) : 0 ≤ intW n := by unfold intW R63; omega
theorem intW_hi (n : Int) : intW n ≤ 18446744073709551615 := by unfold intW R63; omega
theorem back_head (k t s : Int) (h : headOk k t s = true) : openOk (headW k t s) = true ∧ openK (headW k t s) = k ∧ openT (headW k t s) = t ∧ openS (headW k t s) = s := by
  have hw : headW k t s = 1048576 * s + 16 * t + 2 * k + 1 := by unfold headW; rw [if_pos h]
  simp only [headOk, Bool.and_eq_true, decide_eq_true_eq] at h
  obtain ⟨⟨⟨⟨⟨h1, h2⟩, h3⟩, h4⟩, h5⟩, h6⟩ := h
  have ho : openOk (headW k t s) = true := by
    rw [hw]; unfold openOk
    simp only [Bool.and_eq_true, decide_eq_true_eq, beq_iff_eq]
    omega
  refine ⟨ho, ?_, ?_, ?_⟩
  · unfold openK; rw [if_pos ho, hw]; omega
  · unfold openT; rw [if_pos ho, hw]; omega
  · unfold openS; rw [if_pos ho, hw]; omega
theorem headW_lo (k t s : Int) : 0 ≤ headW k t s := by
  unfold headW; split
  · rename_i h; simp only [headOk, Bool.and_eq_true, decide_eq_true_eq] at h; omega
  · omega
theorem headW_hi (k t s : Int) : headW k t s ≤ 18446744073709551615 := by
  unfold headW; split
  · rename_i h; simp only [headOk, Bool.and_eq_true, decide_eq_true_eq] at h; omega
  · omega
theorem back_ptr (a : Int) (h : ptrOk a = true) : atOk (ptrW a) = true ∧ atV (ptrW a) = a ∧ openOk (ptrW a) = false ∧ isI (ptrW a) = false := by
  have hw : ptrW a = 2 * a := by unfold ptrW; rw [if_pos h]
  simp only [ptrOk, Bool.and_eq_true, decide_eq_true_eq] at h
  have ho : atOk (ptrW a) = true := by
    rw [hw]; unfold atOk
    simp only [Bool.and_eq_true, decide_eq_true_eq, beq_iff_eq]
    omega
  refine ⟨ho, ?_, ?_, ?_⟩
  · unfold atV; rw [if_pos ho, hw]; omega
  · rw [hw]; unfold openOk
    have : (2 * a % 2 == 1) = false := by simp
    rw [this]; rfl
  · rw [hw]; unfold isI; simp
theorem ptrW_lo (a : Int) : 0 ≤ ptrW a := by
  unfold ptrW; split
  · rename_i h; simp only [ptrOk, Bool.and_eq_true, decide_eq_true_eq] at h; omega
  · omega
theorem ptrW_hi (a : Int) : ptrW a ≤ 18446744073709551615 := by
  unfold ptrW; split
  · rename_i h; simp only [ptrOk, Bool.and_eq_true, decide_eq_true_eq] at h; omega
  · omega
end Go.Proofs.Ytecpnlhjjmcllaa
