/- Parts of a proof: Plain arithmetic of 63-bit integers: what the functions of layer 1 compute, over Int, with no program in sight.; Walks of layer 1: int63.Wrap, Fits, Add, Sub, Mul, Quo, Rem, Cmp and the reference's Mod, Mean, Wrap, Add, Sub, Mul, size, Signed, Quo.; Plain arithmetic of words: what the functions of layer 2 compute.; Walks of layer 2: word.Int, IsInt, ToInt, Ptr, At, Head, Open, and the reference's.; Walks of layer 2: word.Head, Open, and the reference's.; Arguments as trees: what a reading of an argument says, in the words of the logic; and how a law's call ends.; More rules: a rune as a text; a part of a text; contracts of the model's own kind; bools that are known.; The functions of layer 2, in the words of the logic.; Plain heaps: objects one after the other, their words, where they begin; which word is an object's.; Facts of the seat's types, one by one, by evaluation.; heap: empty, New, is, Used, Room, space.at, Look, place, Part.; heap: Look, place, Part. -/
import Derived.Test.YtecpnlhjjmcllaaJLSTwo2
import Derived.RowKit
import Derived.Laws.Bits64
import Derived.Test.YtecpnlhjjmcllaaProg
import Derived.WalkKit
import Derived.WalkSpells
import Derived.WalkLawsBesides
import Derived.Lib.Hide
import Derived.Laws.BitsAllLaws
import Derived.ProofKit
import Derived.ChangeArms
namespace Go.Proofs.Ytecpnlhjjmcllaa
open Go.RowKit
/-- the 63-bit integer that a number means -/
def W63 (n : Int) : Int := (n + 4611686018427387904) % 9223372036854775808 - 4611686018427387904
theorem W63_bd (n : Int) : -4611686018427387904 ≤ W63 n ∧ W63 n ≤ 4611686018427387903 := by unfold W63; omega
theorem W63_lo (n : Int) : -4611686018427387904 ≤ W63 n := (W63_bd n).1
theorem W63_hi (n : Int) : W63 n ≤ 4611686018427387903 := (W63_bd n).2
theorem W63_shift (n : Int) : wrap64 (n * 2) / 2 = W63 n := by unfold wrap64 W63; omega
theorem W63_wrap (n : Int) : W63 (wrap64 n) = W63 n := by unfold wrap64 W63; omega
theorem W63_id (n : Int) (h1 : -4611686018427387904 ≤ n) (h2 : n ≤ 4611686018427387903) : W63 n = n := by unfold W63; omega
theorem W63_congr {a b : Int} (h : a % 9223372036854775808 = b % 9223372036854775808) : W63 a = W63 b := by unfold W63; omega
theorem W63_mod (n : Int) : W63 n % 9223372036854775808 = n % 9223372036854775808 := by unfold W63; omega
theorem W63_W63 (n : Int) : W63 (W63 n) = W63 n := W63_congr (W63_mod n)
theorem W63_mul_l (a b : Int) : W63 (W63 a * b) = W63 (a * b) := W63_congr (by rw [Int.mul_emod, W63_mod, ← Int.mul_emod])
theorem W63_mul_r (a b : Int) : W63 (a * W63 b) = W63 (a * b) := W63_congr (by rw [Int.mul_emod, W63_mod, ← Int.mul_emod])
theorem W63_add_l (a b : Int) : W63 (W63 a + b) = W63 (a + b) := by unfold W63; omega
theorem W63_add_r (a b : Int) : W63 (a + W63 b) = W63 (a + b) := by unfold W63; omega
theorem W63_sub_l (a b : Int) : W63 (W63 a - b) = W63 (a - b) := by unfold W63; omega
/-- the rest modulo 2^63 -/
def R63 (n : Int) : Int := n % 9223372036854775808
theorem R63_lo (n : Int) : 0 ≤ R63 n := by unfold R63; omega
theorem R63_hi (n : Int) : R63 n ≤ 9223372036854775807 := by unfold R63; omega
theorem R63_u64 (n : Int) : (IntKind.u64.wrap n).tmod 9223372036854775808 = R63 n := by
  rw [Int.tmod_eq_emod_of_nonneg (by simp [IntKind.wrap_u64]; omega)]
  simp only [IntKind.wrap_u64, R63]; omega
theorem W63_R63 (n : Int) : W63 (R63 n) = W63 n := W63_congr (by unfold R63; omega)
theorem mulmod_aux (A B k M : Int) : (A % M + (B % M) * k) % M = (A + B * k) % M := by
  rw [Int.emod_add_emod, Int.add_emod A (B % M * k), Int.add_emod A (B * k), Int.mul_emod (B % M) k, Int.emod_emod, ← Int.mul_emod]
theorem mul_odd (x y s : Int) (h : y % 2 = 1) : W63 ((s + x) % 9223372036854775808 + (2 * x % 9223372036854775808) * (y / 2)) = W63 (s + x * y) := by
  apply W63_congr
  rw [mulmod_aux]
  have hy : y = 2 * (y / 2) + 1 := by omega
  generalize y / 2 = k at *
  subst hy
  rw [show s + x + 2 * x * k = s + x * (2 * k + 1) from by rw [Int.mul_add, Int.mul_one, ← Int.mul_assoc, Int.mul_comm x 2]; omega]
theorem mul_even (x y s : Int) (h : y % 2 = 0) : W63 (s + (2 * x % 9223372036854775808) * (y / 2)) = W63 (s + x * y) := by
  apply W63_congr
  rw [← Int.emod_add_emod, mulmod_aux]
  have hy : y = 2 * (y / 2) := by omega
  generalize y / 2 = k at *
  subst hy
  rw [show s + 2 * x * k = s + x * (2 * k) from by rw [← Int.mul_assoc, Int.mul_comm x 2]]
theorem mul_start (a b : Int) : W63 (0 + R63 a * R63 b) = W63 (a * b) := W63_congr (by unfold R63; rw [Int.zero_add, ← Int.mul_emod])
/-- an integer without its sign; a size with a sign -/
def absI (x : Int) : Int := if x < 0 then -x else x
def sgn (u : Int) (neg : Bool) : Int := if neg then -u else u
theorem absI_lo (x : Int) : 0 ≤ absI x := by unfold absI; omega
theorem absI_W63 (n : Int) : absI (W63 n) ≤ 4611686018427387904 := by have := W63_bd n; unfold absI; omega
theorem absI_pos {x : Int} (h : x ≠ 0) : 1 ≤ absI x := by unfold absI; omega
theorem absI_neg {X : Int} (h : 0 < X) : absI (-X) = X := by unfold absI; omega
theorem absI_nn {x : Int} (h : 0 ≤ x) : absI x = x := by unfold absI; omega
theorem dec_neg {X : Int} (h : 0 < X) : decide (-X < 0) = true := by simp; omega
theorem dec_nn {x : Int} (h : 0 ≤ x) : decide (x < 0) = false := by simp; omega
theorem sgn_quo (x y : Int) : sgn (absI x / absI y) (decide (x < 0) != decide (y < 0)) = x.tdiv y := by
  rcases Int.lt_or_le x 0 with hx | hx
  · obtain ⟨X, rfl⟩ : ∃ X : Int, x = -X := ⟨-x, by omega⟩
    have hX : 0 < X := by omega
    rcases Int.lt_or_le y 0 with hy | hy
    · obtain ⟨Y, rfl⟩ : ∃ Y : Int, y = -Y := ⟨-y, by omega⟩
      have hY : 0 < Y := by omega
      rw [absI_neg hX, absI_neg hY, dec_neg hX, dec_neg hY, Int.neg_tdiv, Int.tdiv_neg, Int.neg_neg, Int.tdiv_eq_ediv_of_nonneg (by omega)]
      rfl
    · rw [absI_neg hX, absI_nn hy, dec_neg hX, dec_nn hy, Int.neg_tdiv, Int.tdiv_eq_ediv_of_nonneg (by omega)]
      rfl
  · rcases Int.lt_or_le y 0 with hy | hy
    · obtain ⟨Y, rfl⟩ : ∃ Y : Int, y = -Y := ⟨-y, by omega⟩
      have hY : 0 < Y := by omega
      rw [absI_nn hx, absI_neg hY, dec_nn hx, dec_neg hY, Int.tdiv_neg, Int.tdiv_eq_ediv_of_nonneg (by omega)]
      rfl
    · rw [absI_nn hx, absI_nn hy, dec_nn hx, dec_nn hy, Int.tdiv_eq_ediv_of_nonneg (by omega)]
      rfl
theorem sgn_rem (x y : Int) : sgn (absI x % absI y) (decide (x < 0)) = x.tmod y := by
  rcases Int.lt_or_le x 0 with hx | hx
  · obtain ⟨X, rfl⟩ : ∃ X : Int, x = -X := ⟨-x, by omega⟩
    have hX : 0 < X := by omega
    rcases Int.lt_or_le y 0 with hy | hy
    · obtain ⟨Y, rfl⟩ : ∃ Y : Int, y = -Y := ⟨-y, by omega⟩
      have hY : 0 < Y := by omega
      rw [absI_neg hX, absI_neg hY, dec_neg hX, Int.neg_tmod, Int.tmod_neg, Int.tmod_eq_emod_of_nonneg (by omega)]
      rfl
    · rw [absI_neg hX, absI_nn hy, dec_neg hX, Int.neg_tmod, Int.tmod_eq_emod_of_nonneg (by omega)]
      rfl
  · rcases Int.lt_or_le y 0 with hy | hy
    · obtain ⟨Y, rfl⟩ : ∃ Y : Int, y = -Y := ⟨-y, by omega⟩
      have hY : 0 < Y := by omega
      rw [absI_nn hx, absI_neg hY, dec_nn hx, Int.tmod_neg, Int.tmod_eq_emod_of_nonneg (by omega)]
      rfl
    · rw [absI_nn hx, absI_nn hy, dec_nn hx, Int.tmod_eq_emod_of_nonneg (by omega)]
      rfl
theorem rem_lo (x y : Int) (hy : 1 ≤ y) : 0 ≤ absI x % y := Int.emod_nonneg _ (by omega)
theorem rem_le (x y : Int) (hy : 1 ≤ y) : absI x % y ≤ absI x := by
  have h := absI_lo x
  generalize absI x = a at *
  obtain ⟨A, rfl⟩ := Int.eq_ofNat_of_zero_le h
  obtain ⟨Y, rfl⟩ := Int.eq_ofNat_of_zero_le (show 0 ≤ y by omega)
  have := Nat.mod_le A Y
  show ((A % Y : Nat) : Int) ≤ A
  omega
theorem quo_lo (x y : Int) (hy : 1 ≤ y) : 0 ≤ absI x / y := Int.ediv_nonneg (absI_lo x) (by omega)
theorem quo_le (x y : Int) : absI x / y ≤ absI x := Int.ediv_le_self _ (absI_lo x)
theorem W63_sgn_rem (x y : Int) (h : y ≠ 0) (h1 : absI x ≤ 4611686018427387904) (h2 : x ≤ 4611686018427387903) : W63 (sgn (absI x % absI y) (decide (x < 0))) = x.tmod y := by
  have a1 := rem_lo x (absI y) (absI_pos h)
  have a2 := rem_le x (absI y) (absI_pos h)
  rw [← sgn_rem]
  apply W63_id
  · unfold sgn; split <;> omega
  · unfold sgn
    split
    · omega
    · rename_i hh
      have : absI x = x := absI_nn (by simp at hh; omega)
      omega
theorem back_sub (a b : Int) : W63 (W63 (a + b) - b) = W63 a := by unfold W63; omega
theorem back_dist (a b c : Int) : W63 (W63 (a * b) + W63 (a * c)) = W63 (a * W63 (b + c)) := by
  rw [W63_add_l, W63_add_r, W63_mul_r, Int.mul_add]
theorem back_quo (a b : Int) : W63 (W63 (W63 ((W63 a).tdiv (W63 b)) * b) + (W63 a).tmod (W63 b)) = W63 a := by
  rw [W63_add_l, W63_congr (a := W63 ((W63 a).tdiv (W63 b)) * b + (W63 a).tmod (W63 b)) (b := W63 a)]
  · exact W63_W63 a
  · rw [Int.add_emod, Int.mul_emod, W63_mod, ← W63_mod b, ← Int.mul_emod, ← Int.add_emod, Int.tdiv_mul_add_tmod]
end Go.Proofs.Ytecpnlhjjmcllaa
namespace Go.Proofs.Ytecpnlhjjmcllaa
open Go.RowKit
theorem ret_int {k : IntKind} {a b : Int} (h : a = b) : Ending.returned (.int k a) = .returned (.int k b) := by rw [h]
theorem ret_ii {k l : IntKind} {a b c d : Int} (h : a = b) (h' : c = d) : Ending.returned (.tuple #[.int k a, .int l c]) = .returned (.tuple #[.int k b, .int l d]) := by rw [h, h']
theorem ret_bool {a b : Bool} (h : a = b) : Ending.returned (.bool a) = .returned (.bool b) := by rw [h]
set_option maxHeartbeats 400000 in
theorem Wrap_c (n : Int) (w : World) : Calls Try.prog 66 #[.int .i64 n] w fun e w' => e = .returned (.int .i64 (W63 n)) ∧ w = w' := by
  go_enter Try.func66, Try.ntmps66
  go_wp2
  go_ret
  exact ⟨ret_int (W63_shift n), rfl⟩
/-- what Cmp answers -/
def cmp3 (a b : Int) : Int := if a < b then -1 else if b < a then 1 else 0
set_option maxHeartbeats 400000 in
theorem Mod_c (n : Int) (w : World) : Calls Try.prog 64 #[.int .i64 n] w fun e w' => e = .returned (.int .u64 (R63 n)) ∧ w = w' := by
  go_enter Try.func64, Try.ntmps64
  go_wp2
  go_ret
  exact ⟨ret_int (R63_u64 n), rfl⟩
theorem ret_iib {k l : IntKind} {a b c d : Int} {x : Bool} (h : a = b) (h' : c = d) : Ending.returned (.tuple #[.int k a, .int l c, .bool x]) = .returned (.tuple #[.int k b, .int l d, .bool x]) := by rw [h, h']
end Go.Proofs.Ytecpnlhjjmcllaa
namespace Go.Proofs.Ytecpnlhjjmcllaa
open Go.RowKit
theorem or_join (i : Nat) (m x y : Int) (hm : m = ((2 ^ i : Nat) : Int)) (h0 : 0 ≤ x) (h1 : x < 18446744073709551616) (h2 : x % m = 0) (h3 : 0 ≤ y) (h4 : y < m) (h5 : y < 18446744073709551616) : bits .or .u64 x y = x + y := by
  rw [u64_or x y h0 h1 h3 h5, nat_join i]
  · omega
  · subst hm
    obtain ⟨X, rfl⟩ := Int.eq_ofNat_of_zero_le h0
    have : ((X % 2 ^ i : Nat) : Int) = 0 := h2
    rw [Int.toNat_natCast]; exact Int.ofNat.inj this
  · subst hm; omega
theorem and_mask (i : Nat) (x y : Int) (h0 : 0 ≤ x) (h1 : x < 18446744073709551616) (hy : y = ((2 ^ i - 1 : Nat) : Int)) (hy2 : y < 18446744073709551616) : bits .and .u64 x y = x % ((2 ^ i : Nat) : Int) := by
  rw [u64_and x y h0 h1 (by omega) hy2]
  subst hy
  rw [Int.toNat_natCast, Nat.and_two_pow_sub_one_eq_mod]
  obtain ⟨X, rfl⟩ := Int.eq_ofNat_of_zero_le h0
  simp
/-- layer 2's word of an integer -/
def intW (n : Int) : Int := 2 * R63 n + 1
theorem intW_shift (n : Int) : bits .or .u64 (IntKind.u64.wrap (IntKind.u64.wrap (W63 n) * 2)) 1 = intW n := by
  rw [or_join 1 2 _ 1 rfl]
  · simp only [IntKind.wrap_u64, intW, R63, W63]; omega
  all_goals (try simp only [IntKind.wrap_u64]); omega
def toI (w : Int) : Int := if w % 2 = 1 then W63 (w / 2) else 0
def isI (w : Int) : Bool := w % 2 == 1
def ptrOk (a : Int) : Bool := decide (0 ≤ a) && decide (a ≤ 4294967296)
def ptrW (a : Int) : Int := if ptrOk a then 2 * a else 0
def okE (b : Bool) : Int := if b then 0 else 2
theorem okE_0 (b : Bool) : (okE b == 0) = b := by cases b <;> rfl
theorem okE_2 (b : Bool) : (okE b == 2) = !b := by cases b <;> rfl
def atOk (w : Int) : Bool := w % 2 == 0 && decide (w ≤ 8589934592)
def atV (w : Int) : Int := if atOk w then w / 2 else 0
def headOk (k t s : Int) : Bool := decide (0 ≤ k) && decide (k ≤ 3) && decide (0 ≤ t) && decide (t ≤ 65535) && decide (0 ≤ s) && decide (s ≤ 16777216)
def headW (k t s : Int) : Int := if headOk k t s then 1048576 * s + 16 * t + 2 * k + 1 else 0
def openOk (w : Int) : Bool := w % 2 == 1 && decide (w / 1048576 ≤ 16777216) && decide (w / 2 % 8 ≤ 3)
def openK (w : Int) : Int := if openOk w then w / 2 % 8 else 0
def openT (w : Int) : Int := if openOk w then w / 16 % 65536 else 0
def openS (w : Int) : Int := if openOk w then w / 1048576 else 0
theorem head_or (k t s : Int) (h1 : 0 ≤ k) (h2 : k ≤ 3) (h3 : 0 ≤ t) (h4 : t ≤ 65535) (h5 : 0 ≤ s) (h6 : s ≤ 16777216) :
    bits .or .u64 (bits .or .u64 (bits .or .u64 (s * 1048576) (t * 16)) (k * 2)) 1 = 1048576 * s + 16 * t + 2 * k + 1 := by
  rw [or_join 20 1048576 (s * 1048576) (t * 16) rfl, or_join 4 16 _ (k * 2) rfl, or_join 1 2 _ 1 rfl]
  all_goals omega
theorem back_int (n : Int) : toI (intW n) = W63 n ∧ isI (intW n) = true := by
  constructor
  · unfold toI intW R63 W63; rw [if_pos (by omega)]; omega
  · unfold isI intW; simp
theorem intW_lo (n : Int) : 0 ≤ intW n := by unfold intW R63; omega
theorem intW_hi (n : Int) : intW n ≤ 18446744073709551615 := by unfold intW R63; omega
theorem back_head (k t s : Int) (h : headOk k t s = true) : openOk (headW k t s) = true ∧ openK (headW k t s) = k ∧ openT (headW k t s) = t ∧ openS (headW k t s) = s := by
  have hw : headW k t s = 1048576 * s + 16 * t + 2 * k + 1 := by unfold headW; rw [if_pos h]
  simp only [headOk, Bool.and_eq_true, decide_eq_true_eq] at h
  obtain ⟨⟨⟨⟨⟨h1, h2⟩, h3⟩, h4⟩, h5⟩, h6⟩ := h
  have ho : openOk (headW k t s) = true := by
    rw [hw]; unfold openOk
    simp only [Bool.and_eq_true, decide_eq_true_eq, beq_iff_eq]
    omega
  refine ⟨ho, ?_, ?_, ?_⟩
  · unfold openK; rw [if_pos ho, hw]; omega
  · unfold openT; rw [if_pos ho, hw]; omega
  · unfold openS; rw [if_pos ho, hw]; omega
theorem headW_lo (k t s : Int) : 0 ≤ headW k t s := by
  unfold headW; split
  · rename_i h; simp only [headOk, Bool.and_eq_true, decide_eq_true_eq] at h; omega
  · omega
theorem headW_hi (k t s : Int) : headW k t s ≤ 18446744073709551615 := by
  unfold headW; split
  · rename_i h; simp only [headOk, Bool.and_eq_true, decide_eq_true_eq] at h; omega
  · omega
theorem back_ptr (a : Int) (h : ptrOk a = true) : atOk (ptrW a) = true ∧ atV (ptrW a) = a ∧ openOk (ptrW a) = false ∧ isI (ptrW a) = false := by
  have hw : ptrW a = 2 * a := by unfold ptrW; rw [if_pos h]
  simp only [ptrOk, Bool.and_eq_true, decide_eq_true_eq] at h
  have ho : atOk (ptrW a) = true := by
    rw [hw]; unfold atOk
    simp only [Bool.and_eq_true, decide_eq_true_eq, beq_iff_eq]
    omega
  refine ⟨ho, ?_, ?_, ?_⟩
  · unfold atV; rw [if_pos ho, hw]; omega
  · rw [hw]; unfold openOk
    have : (2 * a % 2 == 1) = false := by simp
    rw [this]; rfl
  · rw [hw]; unfold isI; simp
theorem ptrW_lo (a : Int) : 0 ≤ ptrW a := by
  unfold ptrW; split
  · rename_i h; simp only [ptrOk, Bool.and_eq_true, decide_eq_true_eq] at h; omega
  · omega
theorem ptrW_hi (a : Int) : ptrW a ≤ 18446744073709551615 := by
  unfold ptrW; split
  · rename_i h; simp only [ptrOk, Bool.and_eq_true, decide_eq_true_eq] at h; omega
  · omega
end Go.Proofs.Ytecpnlhjjmcllaa
namespace Go.Proofs.Ytecpnlhjjmcllaa
open Go.RowKit
theorem ret_ib {k : IntKind} {a b : Int} {x y : Bool} (h : a = b) (h' : x = y) : Ending.returned (.tuple #[.int k a, .bool x]) = .returned (.tuple #[.int k b, .bool y]) := by rw [h, h']
theorem ret_iiib {k l m : IntKind} {a b c d e f : Int} {x y : Bool} (h : a = b) (h' : c = d) (h'' : e = f) (h3 : x = y) : Ending.returned (.tuple #[.int k a, .int l c, .int m e, .bool x]) = .returned (.tuple #[.int k b, .int l d, .int m f, .bool y]) := by rw [h, h', h'', h3]
set_option maxHeartbeats 400000 in
theorem wInt_c (n : Int) (w : World) : Calls Try.prog 57 #[.int .i64 n] w fun e w' => e = .returned (.int .u64 (intW n)) ∧ w = w' := by
  go_enter Try.func57, Try.ntmps57
  go_wp2_with (go_at_call 66; refine (Wrap_c _ _).mono ?_; rintro e w' ⟨rfl, rfl⟩)
  go_ret
  exact ⟨ret_int (intW_shift n), rfl⟩
set_option maxHeartbeats 400000 in
theorem rInt_c (n : Int) (w : World) : Calls Try.prog 53 #[.int .i64 n] w fun e w' => e = .returned (.int .u64 (intW n)) ∧ w = w' := by
  have a1 := R63_lo n
  have a2 := R63_hi n
  go_enter Try.func53, Try.ntmps53
  go_wp2_with (go_at_call 64; refine (Mod_c _ _).mono ?_; rintro e w' ⟨rfl, rfl⟩)
  go_ret
  exact ⟨rfl, rfl⟩
set_option maxHeartbeats 400000 in
theorem IsInt_c (w0 : Int) (w : World) (h1 : 0 ≤ w0) (h2 : w0 ≤ 18446744073709551615) : Calls Try.prog 62 #[.int .u64 w0] w fun e w' => e = .returned (.bool (isI w0)) ∧ w = w' := by
  have hm := and_mask 1 w0 1 h1 (by omega) rfl (by omega)
  have hm : bits .and .u64 w0 1 = w0 % 2 := hm
  go_enter Try.func62, Try.ntmps62
  go_wp2
  go_ret
  exact ⟨rfl, rfl⟩
set_option maxHeartbeats 400000 in
theorem ToInt_c (w0 : Int) (w : World) (h1 : 0 ≤ w0) (h2 : w0 ≤ 18446744073709551615) : Calls Try.prog 63 #[.int .u64 w0] w fun e w' => e = .returned (.tuple #[.int .i64 (toI w0), .bool (isI w0)]) ∧ w = w' := by
  by_cases ho : w0 % 2 = 1
  · have hi : isI w0 = true := by unfold isI; simp [ho]
    go_enter Try.func63, Try.ntmps63
    go_wp2_with (go_at_call 62; refine (IsInt_c _ _ h1 h2).mono ?_; rintro e w' ⟨rfl, rfl⟩)
    go_ret2
    exact ⟨ret_ib (by unfold toI W63; rw [if_pos ho]; unfold wrap64; omega) (by first | rfl | exact hi.symm), rfl⟩
  · have hi : isI w0 = false := by unfold isI; simp [ho]
    go_enter Try.func63, Try.ntmps63
    go_wp2_with (go_at_call 62; refine (IsInt_c _ _ h1 h2).mono ?_; rintro e w' ⟨rfl, rfl⟩)
    go_ret2
    exact ⟨ret_ib (by unfold toI; rw [if_neg ho]) (by first | rfl | exact hi.symm), rfl⟩
set_option maxHeartbeats 400000 in
theorem Ptr_c (a : Int) (w : World) (h1 : -9223372036854775808 ≤ a) (h2 : a ≤ 9223372036854775807) : Calls Try.prog 48 #[.int .i64 a] w fun e w' => e = .returned (.tuple #[.int .u64 (ptrW a), .int .i64 (okE (ptrOk a))]) ∧ w = w' := by
  by_cases ha : a < 0
  · have ho : ptrOk a = false := by unfold ptrOk; simp; omega
    go_enter Try.func48, Try.ntmps48
    go_wp2
    go_ret2
    exact ⟨ret_ii (by unfold ptrW; rw [ho]; rfl) (by first | rfl | (rw [ho]; rfl)), rfl⟩
  · by_cases hb : 4294967296 < a
    · have ho : ptrOk a = false := by unfold ptrOk; simp; omega
      go_enter Try.func48, Try.ntmps48
      go_wp2
      go_ret2
      exact ⟨ret_ii (by unfold ptrW; rw [ho]; rfl) (by first | rfl | (rw [ho]; rfl)), rfl⟩
    · have ho : ptrOk a = true := by unfold ptrOk; simp; omega
      go_enter Try.func48, Try.ntmps48
      go_wp2
      go_ret2
      exact ⟨ret_ii (by unfold ptrW; rw [if_pos ho]; omega) (by first | rfl | (rw [ho]; rfl)), rfl⟩
set_option maxHeartbeats 400000 in
theorem At_c (w0 : Int) (w : World) (h1 : 0 ≤ w0) (h2 : w0 ≤ 18446744073709551615) : Calls Try.prog 61 #[.int .u64 w0] w fun e w' => e = .returned (.tuple #[.int .i64 (atV w0), .bool (atOk w0)]) ∧ w = w' := by
  by_cases ho : w0 % 2 = 1
  · have hi : isI w0 = true := by unfold isI; simp [ho]
    have ho : atOk w0 = false := by unfold atOk; simp; omega
    go_enter Try.func61, Try.ntmps61
    go_wp2_with (go_at_call 62; refine (IsInt_c _ _ h1 h2).mono ?_; rintro e w' ⟨rfl, rfl⟩)
    go_ret2
    exact ⟨ret_ib (by unfold atV; rw [ho]; rfl) (by first | rfl | rw [ho]), rfl⟩
  · have hi : isI w0 = false := by unfold isI; simp [ho]
    by_cases hb : 4294967296 < w0 / 2
    · have ho : atOk w0 = false := by unfold atOk; simp; omega
      go_enter Try.func61, Try.ntmps61
      go_wp2_with (go_at_call 62; refine (IsInt_c _ _ h1 h2).mono ?_; rintro e w' ⟨rfl, rfl⟩)
      go_ret2
      exact ⟨ret_ib (by unfold atV; rw [ho]; rfl) (by first | rfl | rw [ho]), rfl⟩
    · have ho : atOk w0 = true := by unfold atOk; simp; omega
      go_enter Try.func61, Try.ntmps61
      go_wp2_with (go_at_call 62; refine (IsInt_c _ _ h1 h2).mono ?_; rintro e w' ⟨rfl, rfl⟩)
      go_ret2
      exact ⟨ret_ib (by unfold atV; rw [if_pos ho]) (by first | rfl | rw [ho]), rfl⟩
end Go.Proofs.Ytecpnlhjjmcllaa
namespace Go.Proofs.Ytecpnlhjjmcllaa
open Go.RowKit
set_option maxHeartbeats 1000000 in
theorem Head_c (k t s : Int) (w : World) (k1 : -9223372036854775808 ≤ k) (k2 : k ≤ 9223372036854775807) (t1 : -9223372036854775808 ≤ t) (t2 : t ≤ 9223372036854775807) (s1 : -9223372036854775808 ≤ s) (s2 : s ≤ 9223372036854775807) : Calls Try.prog 47 #[.int .i64 k, .int .i64 t, .int .i64 s] w fun e w' => e = .returned (.tuple #[.int .u64 (headW k t s), .int .i64 (okE (headOk k t s))]) ∧ w = w' := by
  by_cases c0 : k < 0
  · have ho : headOk k t s = false := by unfold headOk; simp; omega
    have hw : headW k t s = 0 := by unfold headW; rw [ho]; rfl
    rw [ho, hw]
    clear ho hw
    go_enter Try.func47, Try.ntmps47
    go_wp2
    go_ret2
    exact ⟨rfl, rfl⟩
  by_cases c1 : 3 < k
  · have ho : headOk k t s = false := by unfold headOk; simp; omega
    have hw : headW k t s = 0 := by unfold headW; rw [ho]; rfl
    rw [ho, hw]
    clear ho hw
    go_enter Try.func47, Try.ntmps47
    go_wp2
    go_ret2
    exact ⟨rfl, rfl⟩
  by_cases c2 : t < 0
  · have ho : headOk k t s = false := by unfold headOk; simp; omega
    have hw : headW k t s = 0 := by unfold headW; rw [ho]; rfl
    rw [ho, hw]
    clear ho hw
    go_enter Try.func47, Try.ntmps47
    go_wp2
    go_ret2
    exact ⟨rfl, rfl⟩
  by_cases c3 : 65535 < t
  · have ho : headOk k t s = false := by unfold headOk; simp; omega
    have hw : headW k t s = 0 := by unfold headW; rw [ho]; rfl
    rw [ho, hw]
    clear ho hw
    go_enter Try.func47, Try.ntmps47
    go_wp2
    go_ret2
    exact ⟨rfl, rfl⟩
  by_cases c4 : s < 0
  · have ho : headOk k t s = false := by unfold headOk; simp; omega
    have hw : headW k t s = 0 := by unfold headW; rw [ho]; rfl
    rw [ho, hw]
    clear ho hw
    go_enter Try.func47, Try.ntmps47
    go_wp2
    go_ret2
    exact ⟨rfl, rfl⟩
  by_cases c5 : 16777216 < s
  · have ho : headOk k t s = false := by unfold headOk; simp; omega
    have hw : headW k t s = 0 := by unfold headW; rw [ho]; rfl
    rw [ho, hw]
    clear ho hw
    go_enter Try.func47, Try.ntmps47
    go_wp2
    go_ret2
    exact ⟨rfl, rfl⟩
  have ho : headOk k t s = true := by unfold headOk; simp; omega
  have hw : headW k t s = 1048576 * s + 16 * t + 2 * k + 1 := by unfold headW; rw [if_pos ho]
  rw [ho, hw]
  clear ho hw
  have hor := head_or k t s (by omega) (by omega) (by omega) (by omega) (by omega) (by omega)
  go_enter Try.func47, Try.ntmps47
  go_wp2
  go_ret2
  exact ⟨ret_ii (by first | rfl | omega) (by first | rfl | (unfold okE; rfl)), rfl⟩
set_option maxHeartbeats 1000000 in
theorem Open_c (w0 : Int) (w : World) (h1 : 0 ≤ w0) (h2 : w0 ≤ 18446744073709551615) : Calls Try.prog 45 #[.int .u64 w0] w fun e w' => e = .returned (.tuple #[.int .i64 (openK w0), .int .i64 (openT w0), .int .i64 (openS w0), .bool (openOk w0)]) ∧ w = w' := by
  have m1 : bits .and .u64 (w0 / 2) 7 = w0 / 2 % 8 := and_mask 3 (w0 / 2) 7 (by omega) (by omega) rfl (by omega)
  have m2 : bits .and .u64 (w0 / 16) 65535 = w0 / 16 % 65536 := and_mask 16 (w0 / 16) 65535 (by omega) (by omega) rfl (by omega)
  by_cases c0 : ¬ w0 % 2 = 1
  · have ho : openOk w0 = false := by unfold openOk; simp; omega
    have hk : openK w0 = 0 := by unfold openK; rw [ho]; rfl
    have ht : openT w0 = 0 := by unfold openT; rw [ho]; rfl
    have hs : openS w0 = 0 := by unfold openS; rw [ho]; rfl
    rw [ho, hk, ht, hs]
    clear ho hk ht hs
    have hi : isI w0 = false := by unfold isI; simp; omega
    go_enter Try.func45, Try.ntmps45
    go_wp2_with (go_at_call 62; refine (IsInt_c _ _ h1 h2).mono ?_; rintro e w' ⟨rfl, rfl⟩)
    exact bodyPost_ret (v := .tuple #[.int .i64 0, .int .i64 0, .int .i64 0, .bool false]) (by simp [results, Try.results45, go_sem]) rfl ⟨rfl, rfl⟩
  by_cases c1 : 3 < w0 / 2 % 8
  · have ho : openOk w0 = false := by unfold openOk; simp; omega
    have hk : openK w0 = 0 := by unfold openK; rw [ho]; rfl
    have ht : openT w0 = 0 := by unfold openT; rw [ho]; rfl
    have hs : openS w0 = 0 := by unfold openS; rw [ho]; rfl
    rw [ho, hk, ht, hs]
    clear ho hk ht hs
    have hi : isI w0 = true := by unfold isI; simp; omega
    go_enter Try.func45, Try.ntmps45
    go_wp2_with (go_at_call 62; refine (IsInt_c _ _ h1 h2).mono ?_; rintro e w' ⟨rfl, rfl⟩)
    exact bodyPost_ret (v := .tuple #[.int .i64 0, .int .i64 0, .int .i64 0, .bool false]) (by simp [results, Try.results45, go_sem]) rfl ⟨rfl, rfl⟩
  by_cases c2 : 16777216 < w0 / 1048576
  · have ho : openOk w0 = false := by unfold openOk; simp; omega
    have hk : openK w0 = 0 := by unfold openK; rw [ho]; rfl
    have ht : openT w0 = 0 := by unfold openT; rw [ho]; rfl
    have hs : openS w0 = 0 := by unfold openS; rw [ho]; rfl
    rw [ho, hk, ht, hs]
    clear ho hk ht hs
    have hi : isI w0 = true := by unfold isI; simp; omega
    go_enter Try.func45, Try.ntmps45
    go_wp2_with (go_at_call 62; refine (IsInt_c _ _ h1 h2).mono ?_; rintro e w' ⟨rfl, rfl⟩)
    exact bodyPost_ret (v := .tuple #[.int .i64 0, .int .i64 0, .int .i64 0, .bool false]) (by simp [results, Try.results45, go_sem]) rfl ⟨rfl, rfl⟩
  have ho : openOk w0 = true := by unfold openOk; simp; omega
  have hk : openK w0 = w0 / 2 % 8 := by unfold openK; rw [if_pos ho]
  have ht : openT w0 = w0 / 16 % 65536 := by unfold openT; rw [if_pos ho]
  have hs : openS w0 = w0 / 1048576 := by unfold openS; rw [if_pos ho]
  rw [ho, hk, ht, hs]
  clear ho hk ht hs
  have hi : isI w0 = true := by unfold isI; simp; omega
  go_enter Try.func45, Try.ntmps45
  go_wp2_with (go_at_call 62; refine (IsInt_c _ _ h1 h2).mono ?_; rintro e w' ⟨rfl, rfl⟩)
  exact bodyPost_ret (v := .tuple #[.int .i64 (w0 / 2 % 8), .int .i64 (w0 / 16 % 65536), .int .i64 (w0 / 1048576), .bool true]) (by simp [results, Try.results45, go_sem]) rfl ⟨rfl, rfl⟩
end Go.Proofs.Ytecpnlhjjmcllaa
namespace Go.Proofs.Ytecpnlhjjmcllaa
open Go.RowKit
/-- all cells of a world -/
def cellF (w : World) : EH := fun b i => w.cell? ⟨b, i, none⟩
mutual
/-- the cells of a value of a type -/
def ShapeC (P : Program) : Nat → TypeId → List AV → Prop
  | 0, _, _ => False
  | n + 1, t, cs => match P.underlying t with
    | some .bool => ∃ b, cs = [.val (.bool b)]
    | some (.int k) => ∃ x, (k.min ≤ x ∧ x ≤ k.max) ∧ cs = [.val (.int k x)]
    | some .string => ∃ s : ByteArray, s.size ≤ maxLen ∧ cs = [.val (.string s)]
    | some (.slice e) => ∃ es, cs = [.seq (P.cellsOf e) es] ∧ es.length ≤ maxLen ∧ ∀ x ∈ es, ShapeC P n e x
    | some (.struct fs) => ShapeF P n fs.toList cs
    | _ => False
def ShapeF (P : Program) : Nat → List Field → List AV → Prop
  | _, [], cs => cs = []
  | n, f :: fs, cs => ∃ a b, cs = a ++ b ∧ ShapeC P n f.type a ∧ ShapeF P n fs b
end
def fsOk (P : Program) (S : List TypeId) : Nat → List Field → Nat → Bool
  | k, [], n => k == n
  | k, f :: fs, n => f.offset == k && S.contains f.type && fsOk P S (k + P.cellsOf f.type) fs n
/-- a set of types whose parts are in it -/
def closedT (P : Program) (S : List TypeId) : Bool := S.all fun t => match P.underlying t with
  | some .bool => true
  | some (.int _) => true
  | some .string => true
  | some (.slice e) => S.contains e && Nat.blt 0 (P.cellsOf e)
  | some (.struct fs) => fsOk P S 0 fs.toList (P.cellsOf t)
  | _ => false
section
variable {H : Type} {enc : TypeId × Value → H} {P : Program} {w : World} {sp : Nat → Bool} {held : Bool}
theorem cells_get {a : Addr} {m : Nat} {ws : List Value} (h : w.cells? 0 a m = some ws) : ws.length = m ∧ ∀ j x, ws[j]? = some x → w.cell? (a.add j) = some x := by
  unfold World.cells? at h
  rw [if_pos (Nat.zero_le _)] at h
  have hl : ws.length = m := by simpa using mapM_some_length h
  refine ⟨hl, fun j x hx => ?_⟩
  have hj : j < m := by
    rw [← hl]
    rcases Nat.lt_or_ge j ws.length with k | k
    · exact k
    · rw [List.getElem?_eq_none k] at hx; simp at hx
  have := mapM_some_get h j j (by simp [hj])
  rw [this, hx]
theorem rows_of {fuel : Nat} {e : TypeId} {a : Addr} {m : Nat} {F : EH} : ∀ n : Nat, (∀ i, i < n → ∃ (ws : List Value) (es : List AV), w.cells? 0 (a.add (i * m)) m = some ws ∧ ShapeC P fuel e es ∧ Rels F es ws ∧ Ones ws) →
    ∃ (ess : List (List AV)) (vs : List Value), ess.length = n ∧ (∀ x ∈ ess, ShapeC P fuel e x ∧ x.length = m) ∧ Rels F ess.flatten vs ∧ Ones vs ∧ vs.length = n * m ∧ ∀ j x, vs[j]? = some x → w.cell? (a.add j) = some x
  | 0, _ => ⟨[], [], rfl, by simp, .nil, by intro v hv; simp at hv, by simp, by simp⟩
  | n + 1, h => by
    obtain ⟨ess, vs, h1, h2, h3, h4, h5, h6⟩ := rows_of n (fun i hi => h i (by omega))
    obtain ⟨ws, es, k1, k2, k3, k4⟩ := h n (by omega)
    obtain ⟨q1, q2⟩ := cells_get k1
    refine ⟨ess ++ [es], vs ++ ws, by simp [h1], fun x hx => ?_, by simpa using h3.app k3, fun v hv => ?_, by simp only [List.length_append, h5, q1, Nat.add_mul]; omega, fun j x hx => ?_⟩
    · rcases List.mem_append.1 hx with r | r
      · exact h2 x r
      · simp at r; subst r; exact ⟨k2, by rw [k3.len, q1]⟩
    · rcases List.mem_append.1 hv with r | r
      · exact h4 v r
      · exact k4 v r
    · rcases Nat.lt_or_ge j vs.length with r | r
      · rw [List.getElem?_append_left r] at hx; exact h6 j x hx
      · rw [List.getElem?_append_right r] at hx
        have := q2 _ x hx
        have e1 : (a.add (n * m)).add (j - vs.length) = a.add j := by
          rw [h5] at r ⊢
          unfold Addr.add
          by_cases z1 : n * m = 0
          · rw [if_pos z1]
            simp only [z1, Nat.sub_zero]
          · rw [if_neg z1]
            have hj0 : j ≠ 0 := by omega
            rw [if_neg hj0]
            by_cases z2 : j - n * m = 0
            · rw [if_pos z2]
              simp only [Addr.mk.injEq, true_and, and_true]
              omega
            · rw [if_neg z2]
              simp only [Addr.mk.injEq, true_and, and_true]
              omega
        rwa [e1] at this
theorem open_shape {S : List TypeId} (hS : closedT P S = true) : ∀ (fuel : Nat) (t : TypeId) (vs : List Value) (x : DataW H × List MemPlace), t ∈ S → DataW.trod enc P w 0 sp held fuel t vs = some x →
    ∃ cs, ShapeC P fuel t cs ∧ Rels (cellF w) cs vs ∧ Ones vs := by
  intro fuel
  induction fuel with
  | zero => intro t vs x _ h; simp [DataW.trod] at h
  | succ n ih =>
    intro t vs x ht h
    have hc := List.all_eq_true.1 hS t ht
    have hh := h
    unfold DataW.trod at h
    unfold ShapeC
    cases hu : P.underlying t with
    | none => rw [hu] at hc; simp at hc
    | some d =>
      rw [hu] at hc h
      cases d with
      | bool =>
        simp only at h
        split at h <;> first | (simp at h; done) | skip
        all_goals first | (rename_i b _; exact ⟨[.val (.bool b)], ⟨b, rfl⟩, .cons (.val _) .nil, by intro v hv; simp at hv; subst hv; rfl⟩) | (simp_all; done)
      | int k =>
        simp only at h
        split at h <;> simp_all
        rename_i k' z _
        obtain ⟨⟨rfl, hwf⟩, _⟩ := h
        simp only [Lit.wf, Bool.and_eq_true, decide_eq_true_eq] at hwf
        exact ⟨_, ⟨z, hwf, rfl⟩, .cons (.val _) .nil, by intro v hv; simp at hv; subst hv; rfl⟩
      | string =>
        simp only at h
        split at h <;> simp_all
        exact ⟨_, ⟨_, h.1, rfl⟩, .cons (.val _) .nil, by intro v hv; simp at hv; subst hv; rfl⟩
      | slice e =>
        simp only [Bool.and_eq_true, List.contains_iff_mem, Nat.blt_eq] at hc
        rcases DataW.trod_slice hu hh with ⟨rfl, _⟩ | ⟨a, len, cap, elems, rest, n', hn, rfl, _, _, hlc, hcm, hel, hat, _⟩
        · exact ⟨[.seq (P.cellsOf e) []], ⟨[], rfl, by simp, by simp⟩, .cons (.seq0 _ none 0 (fun _ => rfl)) .nil, by intro v hv; simp at hv; subst hv; rfl⟩
        · obtain rfl : n = n' := by omega
          have hrows : ∀ i, i < len → ∃ ws es, w.cells? 0 (a.add (i * P.cellsOf e)) (P.cellsOf e) = some ws ∧ ShapeC P n e es ∧ Rels (cellF w) es ws ∧ Ones ws := by
            intro i hi
            have h1 := hat i hi
            rw [List.getElem?_eq_getElem (by omega)] at h1
            obtain ⟨ws, h2, h3⟩ := Option.bind_eq_some_iff.1 h1
            obtain ⟨es, h4, h5, h6⟩ := ih e ws _ hc.1 h3
            exact ⟨ws, es, h2, h4, h5, h6⟩
          obtain ⟨ess, vs', r1, r2, r3, r4, r5, r6⟩ := rows_of len hrows
          refine ⟨[.seq (P.cellsOf e) ess], ⟨ess, rfl, by omega, fun x hx => (r2 x hx).1⟩, .cons ?_ .nil, by intro v hv; simp at hv; subst hv; rfl⟩
          by_cases h0 : len = 0
          · subst h0
            have : ess = [] := List.eq_nil_of_length_eq_zero r1
            subst this
            exact .seq0 _ _ _ (by simp)
          · have hpos : 0 < vs'.length := by rw [r5]; exact Nat.mul_pos (by omega) hc.2
            have hsp : a.spot = none := by
              have := r6 0 vs'[0] (List.getElem?_eq_getElem hpos)
              have e0 : a.add 0 = a := by simp [Addr.add]
              rw [e0] at this
              unfold World.cell? at this
              cases hs : a.spot with
              | none => rfl
              | some q => rw [hs] at this; simp at this; split at this <;> simp at this
            obtain ⟨b, off, spot⟩ := a
            simp only at hsp
            subst hsp
            subst r1
            refine .seq b off cap (fun x hx => (r2 x hx).2) (by omega) (fun j x hx => ?_) r3 r4 (by omega)
            have := r6 j x hx
            rwa [addr_add0] at this
      | struct fs =>
        simp only at hc
        obtain ⟨xs, n', hn, _, hlen, hxl, hat⟩ := DataW.trod_struct hu hh
        obtain rfl : n = n' := by omega
        have hmem : ∀ f ∈ fs.toList, ∃ y, DataW.trod enc P w 0 sp held n f.type ((vs.drop f.offset).take (P.cellsOf f.type)) = some y := by
          intro f hf
          obtain ⟨i, hi, hie⟩ := List.mem_iff_getElem.1 hf
          have h1 := hat i f (by rw [← hie]; simp at hi ⊢)
          rw [h1]
          simp at hi
          exact ⟨xs[i]'(by omega), List.getElem?_eq_getElem (by omega)⟩
        have key : ∀ (l : List Field) (k : Nat), (∀ f ∈ l, ∃ y, DataW.trod enc P w 0 sp held n f.type ((vs.drop f.offset).take (P.cellsOf f.type)) = some y) → fsOk P S k l (P.cellsOf t) = true →
            ∃ cs, ShapeF P n l cs ∧ Rels (cellF w) cs (vs.drop k) ∧ Ones (vs.drop k) := by
          intro l
          induction l with
          | nil =>
            intro k _ hk
            simp only [fsOk, beq_iff_eq] at hk
            refine ⟨[], by simp [ShapeF], ?_, ?_⟩
            · rw [List.drop_eq_nil_of_le (by omega)]; exact .nil
            · rw [List.drop_eq_nil_of_le (by omega)]; intro v hv; simp at hv
          | cons f l ihl =>
            intro k hf hk
            simp only [fsOk, Bool.and_eq_true, beq_iff_eq, List.contains_iff_mem] at hk
            obtain ⟨⟨rfl, hS1⟩, hk⟩ := hk
            obtain ⟨y, hy⟩ := hf f (by simp)
            obtain ⟨c1, h1, h2, h3⟩ := ih f.type _ y hS1 hy
            obtain ⟨c2, h4, h5, h6⟩ := ihl (f.offset + P.cellsOf f.type) (fun g hg => hf g (by simp [hg])) hk
            have e1 : vs.drop f.offset = (vs.drop f.offset).take (P.cellsOf f.type) ++ vs.drop (f.offset + P.cellsOf f.type) := by
              rw [← List.drop_drop, List.take_append_drop]
            refine ⟨c1 ++ c2, by rw [ShapeF]; exact ⟨c1, c2, rfl, h1, h4⟩, by rw [e1]; exact h2.app h5, ?_⟩
            rw [e1]
            intro v hv
            rcases List.mem_append.1 hv with q | q
            · exact h3 v q
            · exact h6 v q
        obtain ⟨cs, k1, k2, k3⟩ := key fs.toList 0 hmem hc
        rw [List.drop_zero] at k2 k3
        exact ⟨cs, k1, k2, k3⟩
      | _ => simp at hc
theorem Inv.start (w : World) : Inv w.heap.size (cellF w) [] w := ⟨Nat.le_refl _, fun _ _ _ h => h, by simp, List.Pairwise.nil⟩
/-- a law's call, at a world's own cells -/
theorem law_run {f : FuncId} {vs : List AV} {us : List Value} (h : ACall P f vs [] (fun v _ => v = .val (.bool true))) (hr : Rels (cellF w) vs us) : Calls P f us.toArray w fun e w' => e = .returned (.bool true) ∧ Below w.heap.size w w' := by
  refine (h.run w.heap.size (cellF w) [] w us (by simpa using Inv.start w) hr).mono ?_
  rintro e w' ⟨u, v, M', F', rfl, rfl, h3, _, _, h6⟩
  cases h3
  exact ⟨rfl, h6⟩
/-- an argument of one cell -/
theorem open_one {S : List TypeId} (hS : closedT P S = true) {t : TypeId} {v : Value} {d : DataW H} {ps : List MemPlace} (ht : t ∈ S) (h : DataW.Trod enc P w 0 sp held t v d ps) : ∃ fuel cs, ShapeC P fuel t cs ∧ Rels (cellF w) cs v.cells.toList ∧ Ones v.cells.toList := by
  obtain ⟨fuel, h⟩ := h
  obtain ⟨cs, h1, h2, h3⟩ := open_shape hS fuel t _ _ ht h
  exact ⟨fuel, cs, h1, h2, h3⟩
theorem rel_agg {F : EH} {v : Value} {cs : List AV} (hv : ∃ a, v = .agg a) (h : Rels F cs v.cells.toList) (h1 : Ones v.cells.toList) : Rel F (.agg cs) v := by
  obtain ⟨a, rfl⟩ := hv
  have := Rel.agg h h1
  simpa [Value.cells] using this
theorem rel_cell {F : EH} {v : Value} {c : AV} (hv : ∀ a, v ≠ .agg a) (h : Rels F [c] v.cells.toList) : Rel F c v := by
  have e : v.cells.toList = [v] := by cases v <;> first | rfl | exact absurd rfl (hv _)
  rw [e] at h
  cases h with
  | cons h _ => exact h
end
end Go.Proofs.Ytecpnlhjjmcllaa
namespace Go.Proofs.Ytecpnlhjjmcllaa
open Go.RowKit
theorem wrap32 {x : Int} (h0 : 0 ≤ x) (h1 : x ≤ 2147483647) : IntKind.i32.wrap x = x := by
  unfold IntKind.wrap
  have e : x % (2 ^ IntKind.i32.bits : Int) = x := Int.emod_eq_of_lt h0 (by simp [IntKind.bits]; omega)
  simp only [e]
  rw [if_neg]
  simp [IntKind.signed, IntKind.bits]
  omega
section
variable {P : Program} {n : Nat} {al : Sl} {M : Mem} {o : Oper} {K : AV → Mem → Prop}
theorem op_runestr {x : Operand} {t t' : TypeId} {k k' : IntKind} {a : Int} (ho : o.op = .convert t t' x) (ht : P.underlying t = some (.int k')) (ht' : P.underlying t' = some .string) (hx : al.ev x = some (.val (.int k a))) (q : K (.val (.string (Utf8.encode a))) M) : OpT P o al M K :=
  OpT.plain fun n B F Mf ac w hi hs => ⟨_, _, by simp [execOp, ho, ev_val hs hx, convert, underlying, ht, ht', Conv.intToString], q, .val _⟩
theorem op_substr {x lo hi : Operand} {t : TypeId} {s : ByteArray} {k k' : IntKind} {a b : Int} {i j : Nat} (ho : o.op = .slice t x (some lo) (some hi) none) (ht : P.underlying t = some .string) (hx : al.ev x = some (.val (.string s))) (hlo : al.ev lo = some (.val (.int k a))) (hhi : al.ev hi = some (.val (.int k' b))) (ha : a = i) (hb : b = j) (hij : i ≤ j) (hj : j ≤ s.size) (q : K (.val (.string (s.extract i j))) M) : OpT P o al M K :=
  OpT.plain fun n B F Mf ac w hi' hs => by
    refine ⟨_, _, ?_, q, .val _⟩
    subst ha hb
    have h1 : (0 : Int) ≤ (j : Int) ∧ (j : Int) ≤ (s.size : Int) := ⟨by omega, by omega⟩
    have h2 : (0 : Int) ≤ (i : Int) ∧ (i : Int) ≤ (j : Int) := ⟨by omega, by omega⟩
    simp [execOp, ho, ev_val hs hx, ev_val hs hlo, ev_val hs hhi, Instr.sliceAt, underlying, ht, Instr.slice, Instr.sliceBounds, Instr.sliceBound, asIntOf, hj, hij]
theorem BCall.yes {f : FuncId} {vs : List AV} {p : Prop} (h : BCall P f vs p) (hp : p) : PCall P f vs (.val (.bool true)) :=
  h.mono (by rintro v M' ⟨⟨c, hc, rfl⟩, rfl⟩; exact ⟨by rw [hc.2 hp], rfl⟩)
theorem BCall.no {f : FuncId} {vs : List AV} {p : Prop} (h : BCall P f vs p) (hp : ¬ p) : PCall P f vs (.val (.bool false)) :=
  h.mono (by rintro v M' ⟨⟨c, hc, rfl⟩, rfl⟩; exact ⟨by cases c <;> simp_all, rfl⟩)
/-- nothing old has turned: the words still hold -/
theorem Inv.kept {B : Nat} {F : EH} {M : Mem} {w w' : World} (hi : Inv B F M w) (hb : Below w.heap.size w w') : Inv B F M w' := by
  refine ⟨Nat.le_trans hi.base hb.size, fun b i x h => ?_, fun r hr => ?_, hi.far⟩
  · have h1 := hi.fix b i x h
    rw [hb.cell (p := ⟨b, i, none⟩) (cell_size h1)]; exact h1
  · exact (hi.ok r hr).stay (Ext.refl F) (fun b hbk => ⟨hb.block b ((hi.ok r hr).lt hbk), fun _ => rfl⟩)
/-- a contract over plain values, in the words of the logic -/
theorem PCall.of_calls {f : FuncId} {vs : List Value} {r : Value} (he : Enters P f) (h : ∀ w, Calls P f vs.toArray w fun e w' => e = .returned r ∧ Below w.heap.size w w') : PCall P f (vs.map AV.val) (.val r) := by
  refine ⟨he, fun B F Mf w us hi hr => ?_⟩
  have e : us = vs := by
    have key : ∀ (vs us : List Value), Rels F (vs.map AV.val) us → us = vs := by
      intro vs
      induction vs with
      | nil => intro us h; cases h; rfl
      | cons v vs ih =>
        intro us h
        cases h with
        | cons h hs => cases h; rw [ih _ hs]
    exact key vs us hr
  subst e
  refine (h w).mono ?_
  rintro e w' ⟨rfl, hb⟩
  exact ⟨r, .val r, [], F, rfl, ⟨rfl, rfl⟩, .val r, Ext.refl F, hi.kept hb, hb.mono hi.base⟩
end
end Go.Proofs.Ytecpnlhjjmcllaa
namespace Go.Proofs.Ytecpnlhjjmcllaa
open Go.RowKit
theorem PCall.of_callt {P : Program} {f : FuncId} {vs rs : List Value} (he : Enters P f) (h : ∀ w, Calls P f vs.toArray w fun e w' => e = .returned (.tuple rs.toArray) ∧ Below w.heap.size w w') : PCall P f (vs.map AV.val) (.tup (rs.map AV.val)) :=
  (PCall.of_calls he h).weak (by
    rintro v M' ⟨rfl, rfl⟩
    refine ⟨_, _, ?_, MLe.refl _, rfl, rfl⟩
    intro F u hr
    cases hr
    exact .tup (Rels.vals F rs))
theorem below_eq {w w' : World} (h : w = w') : Below w.heap.size w w' := by subst h; exact Below.refl _ _
theorem Int_p (n : Int) : PCall Try.prog 57 [.val (.int .i64 n)] (.val (.int .u64 (intW n))) :=
  PCall.of_calls (vs := [.int .i64 n]) (enters_of Try.func57 (by kernel_rfl) rfl) (fun w => (wInt_c n w).mono (fun _ _ ⟨h, k⟩ => ⟨h, below_eq k⟩))
theorem rInt_p (n : Int) : PCall Try.prog 53 [.val (.int .i64 n)] (.val (.int .u64 (intW n))) :=
  PCall.of_calls (vs := [.int .i64 n]) (enters_of Try.func53 (by kernel_rfl) rfl) (fun w => (rInt_c n w).mono (fun _ _ ⟨h, k⟩ => ⟨h, below_eq k⟩))
theorem IsInt_p (w0 : Int) (h1 : 0 ≤ w0) (h2 : w0 ≤ 18446744073709551615) : PCall Try.prog 62 [.val (.int .u64 w0)] (.val (.bool (isI w0))) :=
  PCall.of_calls (vs := [.int .u64 w0]) (enters_of Try.func62 (by kernel_rfl) rfl) (fun w => (IsInt_c w0 w h1 h2).mono (fun _ _ ⟨h, k⟩ => ⟨h, below_eq k⟩))
theorem ToInt_p (w0 : Int) (h1 : 0 ≤ w0) (h2 : w0 ≤ 18446744073709551615) : PCall Try.prog 63 [.val (.int .u64 w0)] (.tup [.val (.int .i64 (toI w0)), .val (.bool (isI w0))]) :=
  PCall.of_callt (vs := [.int .u64 w0]) (rs := [.int .i64 (toI w0), .bool (isI w0)]) (enters_of Try.func63 (by kernel_rfl) rfl) (fun w => (ToInt_c w0 w h1 h2).mono (fun _ _ ⟨h, k⟩ => ⟨h, below_eq k⟩))
theorem Ptr_p (a : Int) (h1 : -9223372036854775808 ≤ a) (h2 : a ≤ 9223372036854775807) : PCall Try.prog 48 [.val (.int .i64 a)] (.tup [.val (.int .u64 (ptrW a)), .val (.int .i64 (okE (ptrOk a)))]) :=
  PCall.of_callt (vs := [.int .i64 a]) (rs := [.int .u64 (ptrW a), .int .i64 (okE (ptrOk a))]) (enters_of Try.func48 (by kernel_rfl) rfl) (fun w => (Ptr_c a w h1 h2).mono (fun _ _ ⟨h, k⟩ => ⟨h, below_eq k⟩))
theorem At_p (w0 : Int) (h1 : 0 ≤ w0) (h2 : w0 ≤ 18446744073709551615) : PCall Try.prog 61 [.val (.int .u64 w0)] (.tup [.val (.int .i64 (atV w0)), .val (.bool (atOk w0))]) :=
  PCall.of_callt (vs := [.int .u64 w0]) (rs := [.int .i64 (atV w0), .bool (atOk w0)]) (enters_of Try.func61 (by kernel_rfl) rfl) (fun w => (At_c w0 w h1 h2).mono (fun _ _ ⟨h, k⟩ => ⟨h, below_eq k⟩))
theorem Head_p (k t s : Int) (k1 : -9223372036854775808 ≤ k) (k2 : k ≤ 9223372036854775807) (t1 : -9223372036854775808 ≤ t) (t2 : t ≤ 9223372036854775807) (s1 : -9223372036854775808 ≤ s) (s2 : s ≤ 9223372036854775807) : PCall Try.prog 47 [.val (.int .i64 k), .val (.int .i64 t), .val (.int .i64 s)] (.tup [.val (.int .u64 (headW k t s)), .val (.int .i64 (okE (headOk k t s)))]) :=
  PCall.of_callt (vs := [.int .i64 k, .int .i64 t, .int .i64 s]) (rs := [.int .u64 (headW k t s), .int .i64 (okE (headOk k t s))]) (enters_of Try.func47 (by kernel_rfl) rfl) (fun w => (Head_c k t s w k1 k2 t1 t2 s1 s2).mono (fun _ _ ⟨h, k⟩ => ⟨h, below_eq k⟩))
theorem Open_p (w0 : Int) (h1 : 0 ≤ w0) (h2 : w0 ≤ 18446744073709551615) : PCall Try.prog 45 [.val (.int .u64 w0)] (.tup [.val (.int .i64 (openK w0)), .val (.int .i64 (openT w0)), .val (.int .i64 (openS w0)), .val (.bool (openOk w0))]) :=
  PCall.of_callt (vs := [.int .u64 w0]) (rs := [.int .i64 (openK w0), .int .i64 (openT w0), .int .i64 (openS w0), .bool (openOk w0)]) (enters_of Try.func45 (by kernel_rfl) rfl) (fun w => (Open_c w0 w h1 h2).mono (fun _ _ ⟨h, k⟩ => ⟨h, below_eq k⟩))
end Go.Proofs.Ytecpnlhjjmcllaa
namespace Go.Proofs.Ytecpnlhjjmcllaa
structure HO where
  kind : Int
  tag : Int
  parts : List Int
def HO.ok (o : HO) : Prop := headOk o.kind o.tag o.parts.length = true ∧ 0 < o.parts.length ∧ ∀ x ∈ o.parts, 0 ≤ x ∧ x ≤ 18446744073709551615
def HO.head (o : HO) : Int := headW o.kind o.tag o.parts.length
def HO.ws (o : HO) : List Int := o.head :: o.parts
def HO.bs (o : HO) : List Bool := true :: List.replicate o.parts.length false
def hwT (H : List HO) : List Int := (H.map HO.ws).flatten
def hbT (H : List HO) : List Bool := (H.map HO.bs).flatten
def hw (H : List HO) : List Int := 0 :: hwT H
def hb (H : List HO) : List Bool := false :: hbT H
def used (H : List HO) : Nat := (hwT H).length
theorem HO.ws_len (o : HO) : o.ws.length = o.parts.length + 1 := by simp [HO.ws]
theorem HO.bs_len (o : HO) : o.bs.length = o.parts.length + 1 := by simp [HO.bs]
theorem hwT_app (a b : List HO) : hwT (a ++ b) = hwT a ++ hwT b := by simp [hwT]
theorem hbT_app (a b : List HO) : hbT (a ++ b) = hbT a ++ hbT b := by simp [hbT]
theorem hwT_cons (o : HO) (b : List HO) : hwT (o :: b) = o.ws ++ hwT b := by simp [hwT]
theorem hbT_cons (o : HO) (b : List HO) : hbT (o :: b) = o.bs ++ hbT b := by simp [hbT]
theorem hbT_len : ∀ H : List HO, (hbT H).length = (hwT H).length
  | [] => rfl
  | o :: H => by rw [hbT_cons, hwT_cons, List.length_append, List.length_append, hbT_len H, o.ws_len, o.bs_len]
theorem hw_len (H : List HO) : (hw H).length = used H + 1 := by simp [hw, used]
theorem hb_len (H : List HO) : (hb H).length = used H + 1 := by simp [hb, used, hbT_len]
theorem used_app (a b : List HO) : used (a ++ b) = used a + used b := by simp [used, hwT_app]
theorem used_one (o : HO) : used [o] = o.parts.length + 1 := by simp [used, hwT, o.ws_len]
theorem used_nil : used [] = 0 := rfl
theorem used_cons (o : HO) (H : List HO) : used (o :: H) = o.parts.length + 1 + used H := by simp [used, hwT_cons, o.ws_len]
theorem hw_app (H : List HO) (o : HO) : hw (H ++ [o]) = hw H ++ o.ws := by simp [hw, hwT]
theorem hb_app (H : List HO) (o : HO) : hb (H ++ [o]) = hb H ++ o.bs := by simp [hb, hbT]
/-- the object of a word -/
def objFrom : Nat → List HO → Int → Option HO
  | _, [], _ => none
  | a, o :: H, w => if w = 2 * (a : Int) then some o else objFrom (a + 1 + o.parts.length) H w
def objOf (H : List HO) (w : Int) : Option HO := objFrom 1 H w
theorem rep_get {n j : Nat} {b : Bool} : (List.replicate n b)[j]? = some true → b = true ∧ j < n := by
  rw [List.getElem?_replicate]
  split
  · intro h; simp at h; exact ⟨h, by assumption⟩
  · intro h; cases h
/-- what is known where an object begins -/
theorem objFrom_some : ∀ (H : List HO) (a : Nat) (w : Int) (o : HO), objFrom a H w = some o → ∃ p q, H = p ++ o :: q ∧ w = 2 * ((a + used p : Nat) : Int)
  | [], a, w, o, h => by cases h
  | x :: H, a, w, o, h => by
    rw [objFrom] at h
    split at h
    · cases h
      exact ⟨[], H, rfl, by simp [used_nil]; assumption⟩
    · obtain ⟨p, q, rfl, e⟩ := objFrom_some H _ w o h
      exact ⟨x :: p, q, rfl, by rw [used_cons]; omega⟩
theorem objFrom_begin : ∀ (H : List HO) (a j : Nat), (hbT H)[j]? = some true → ∃ o, objFrom a H (2 * ((a + j : Nat) : Int)) = some o
  | [], a, j, h => by simp [hbT] at h
  | x :: H, a, j, h => by
    rw [hbT_cons] at h
    by_cases hj : j < x.bs.length
    · rw [List.getElem?_append_left hj] at h
      cases j with
      | zero => exact ⟨x, by rw [objFrom, if_pos (by simp)]⟩
      | succ j =>
        rw [HO.bs, List.getElem?_cons_succ] at h
        cases (rep_get h).1
    · rw [List.getElem?_append_right (by omega), x.bs_len] at h
      rw [x.bs_len] at hj
      obtain ⟨o, ho⟩ := objFrom_begin H (a + 1 + x.parts.length) _ h
      refine ⟨o, ?_⟩
      rw [objFrom, if_neg (by omega)]
      rw [← ho]
      congr 1
      omega
theorem hb_get (H : List HO) (j : Nat) (hj : 1 ≤ j) : (hb H)[j]? = (hbT H)[j - 1]? := by
  obtain ⟨k, rfl⟩ : ∃ k, j = k + 1 := ⟨j - 1, by omega⟩
  rw [hb, List.getElem?_cons_succ]; rfl
theorem hw_get (H : List HO) (j : Nat) (hj : 1 ≤ j) : (hw H)[j]? = (hwT H)[j - 1]? := by
  obtain ⟨k, rfl⟩ : ∃ k, j = k + 1 := ⟨j - 1, by omega⟩
  rw [hw, List.getElem?_cons_succ]; rfl
/-- a place where an object begins -/
theorem obj_begin {H : List HO} {j : Nat} (hj : 1 ≤ j) (h : (hb H)[j]? = some true) : ∃ o, objOf H (2 * (j : Int)) = some o := by
  rw [hb_get H j hj] at h
  obtain ⟨o, ho⟩ := objFrom_begin H 1 (j - 1) h
  exact ⟨o, by rw [objOf, ← ho]; congr 2; omega⟩
/-- an object's place -/
theorem obj_at {H : List HO} {w : Int} {o : HO} (h : objOf H w = some o) : ∃ a : Nat, 1 ≤ a ∧ w = 2 * (a : Int) ∧ a + o.parts.length < used H + 1 ∧ (hb H)[a]? = some true ∧ (hw H)[a]? = some o.head ∧ (∀ i, i < o.parts.length → (hw H)[a + 1 + i]? = o.parts[i]?) ∧ o ∈ H := by
  obtain ⟨p, q, rfl, e⟩ := objFrom_some H 1 w o h
  refine ⟨1 + used p, by omega, e, ?_, ?_, ?_, fun i hi => ?_, by simp⟩
  · rw [used_app, used_cons]; omega
  · rw [hb_get _ _ (by omega), hbT_app, List.getElem?_append_right (by rw [hbT_len]; unfold used; omega), hbT_len, hbT_cons, show 1 + used p - 1 - (hwT p).length = 0 by unfold used; omega]
    rfl
  · rw [hw_get _ _ (by omega), hwT_app, List.getElem?_append_right (by unfold used; omega), hwT_cons, show 1 + used p - 1 - (hwT p).length = 0 by unfold used; omega]
    rfl
  · rw [hw_get _ _ (by omega), hwT_app, List.getElem?_append_right (by unfold used; omega), hwT_cons, show 1 + used p + 1 + i - 1 - (hwT p).length = i + 1 by unfold used; omega, List.getElem?_append_left (by rw [o.ws_len]; omega), HO.ws, List.getElem?_cons_succ]
/-- the object of a word: its number -/
def findFrom : Nat → List HO → Int → Option Nat
  | _, [], _ => none
  | a, o :: H, w => if w = 2 * (a : Int) then some 0 else (findFrom (a + 1 + o.parts.length) H w).map (· + 1)
end Go.Proofs.Ytecpnlhjjmcllaa
namespace Go.Proofs.Ytecpnlhjjmcllaa
theorem tmix : Try.prog.follows .mixedOrders = true := by kernel_rfl
theorem ta_1 : tyAgg Try.prog 1 = some none := by kernel_rfl
theorem ts_1 : (Try.prog.info? 1).map (·.size) = some 1 := by kernel_rfl
theorem tz_1 : tyZero Try.prog 1 = some .nilFunc := by kernel_rfl
theorem ta_2 : tyAgg Try.prog 2 = some none := by kernel_rfl
theorem ts_2 : (Try.prog.info? 2).map (·.size) = some 1 := by kernel_rfl
theorem tz_2 : tyZero Try.prog 2 = some (.int .i64 0) := by kernel_rfl
theorem tu_2 : Try.prog.underlying 2 = some (.int .i64) := by kernel_rfl
theorem ta_3 : tyAgg Try.prog 3 = some none := by kernel_rfl
theorem ts_3 : (Try.prog.info? 3).map (·.size) = some 1 := by kernel_rfl
theorem tz_3 : tyZero Try.prog 3 = some (.int .i64 0) := by kernel_rfl
theorem tu_3 : Try.prog.underlying 3 = some (.int .i64) := by kernel_rfl
theorem ta_4 : tyAgg Try.prog 4 = some none := by kernel_rfl
theorem ts_4 : (Try.prog.info? 4).map (·.size) = some 1 := by kernel_rfl
theorem tz_4 : tyZero Try.prog 4 = some (.bool false) := by kernel_rfl
theorem tu_4 : Try.prog.underlying 4 = some (.bool) := by kernel_rfl
theorem ta_5 : tyAgg Try.prog 5 = some none := by kernel_rfl
theorem ts_5 : (Try.prog.info? 5).map (·.size) = some 1 := by kernel_rfl
theorem tz_5 : tyZero Try.prog 5 = some (.int .u8 0) := by kernel_rfl
theorem tu_5 : Try.prog.underlying 5 = some (.int .u8) := by kernel_rfl
theorem ta_6 : tyAgg Try.prog 6 = some none := by kernel_rfl
theorem ts_6 : (Try.prog.info? 6).map (·.size) = some 1 := by kernel_rfl
theorem tz_6 : tyZero Try.prog 6 = some (.int .u8 0) := by kernel_rfl
theorem tu_6 : Try.prog.underlying 6 = some (.int .u8) := by kernel_rfl
theorem ta_7 : tyAgg Try.prog 7 = some (some 4) := by kernel_rfl
theorem ts_7 : (Try.prog.info? 7).map (·.size) = some 4 := by kernel_rfl
theorem tz_7 : tyZero Try.prog 7 = some (.agg #[(.int .i64 0), (.int .i64 0), (.bool false), (.int .u8 0)]) := by kernel_rfl
theorem tf_7_0 : tyFld Try.prog 7 0 = some 0 := by kernel_rfl
theorem tf_7_1 : tyFld Try.prog 7 1 = some 1 := by kernel_rfl
theorem tf_7_2 : tyFld Try.prog 7 2 = some 2 := by kernel_rfl
theorem tf_7_3 : tyFld Try.prog 7 3 = some 3 := by kernel_rfl
theorem tfl_7 : tyFlds Try.prog 7 = some [(0, 1), (1, 1), (2, 1), (3, 1)] := by kernel_rfl
theorem ta_8 : tyAgg Try.prog 8 = some (some 4) := by kernel_rfl
theorem ts_8 : (Try.prog.info? 8).map (·.size) = some 4 := by kernel_rfl
theorem tz_8 : tyZero Try.prog 8 = some (.agg #[(.int .i64 0), (.int .i64 0), (.bool false), (.int .u8 0)]) := by kernel_rfl
theorem tf_8_0 : tyFld Try.prog 8 0 = some 0 := by kernel_rfl
theorem tf_8_1 : tyFld Try.prog 8 1 = some 1 := by kernel_rfl
theorem tf_8_2 : tyFld Try.prog 8 2 = some 2 := by kernel_rfl
theorem tf_8_3 : tyFld Try.prog 8 3 = some 3 := by kernel_rfl
theorem tfl_8 : tyFlds Try.prog 8 = some [(0, 1), (1, 1), (2, 1), (3, 1)] := by kernel_rfl
theorem ta_9 : tyAgg Try.prog 9 = some none := by kernel_rfl
theorem ts_9 : (Try.prog.info? 9).map (·.size) = some 1 := by kernel_rfl
theorem tz_9 : tyZero Try.prog 9 = some (.string ⟨#[]⟩) := by kernel_rfl
theorem tu_9 : Try.prog.underlying 9 = some (.string) := by kernel_rfl
theorem ta_10 : tyAgg Try.prog 10 = some none := by kernel_rfl
theorem ts_10 : (Try.prog.info? 10).map (·.size) = some 1 := by kernel_rfl
theorem tz_10 : tyZero Try.prog 10 = some (.string ⟨#[]⟩) := by kernel_rfl
theorem tu_10 : Try.prog.underlying 10 = some (.string) := by kernel_rfl
theorem ta_11 : tyAgg Try.prog 11 = some none := by kernel_rfl
theorem ts_11 : (Try.prog.info? 11).map (·.size) = some 1 := by kernel_rfl
theorem tz_11 : tyZero Try.prog 11 = some (.string ⟨#[]⟩) := by kernel_rfl
theorem tu_11 : Try.prog.underlying 11 = some (.string) := by kernel_rfl
theorem ta_12 : tyAgg Try.prog 12 = some none := by kernel_rfl
theorem ts_12 : (Try.prog.info? 12).map (·.size) = some 1 := by kernel_rfl
theorem tz_12 : tyZero Try.prog 12 = some (.int .u64 0) := by kernel_rfl
theorem tu_12 : Try.prog.underlying 12 = some (.int .u64) := by kernel_rfl
theorem ta_13 : tyAgg Try.prog 13 = some (some 2) := by kernel_rfl
theorem ts_13 : (Try.prog.info? 13).map (·.size) = some 2 := by kernel_rfl
theorem tz_13 : tyZero Try.prog 13 = some (.agg #[(.string ⟨#[]⟩), (.int .u64 0)]) := by kernel_rfl
theorem tf_13_0 : tyFld Try.prog 13 0 = some 0 := by kernel_rfl
theorem tf_13_1 : tyFld Try.prog 13 1 = some 1 := by kernel_rfl
theorem tfl_13 : tyFlds Try.prog 13 = some [(0, 1), (1, 1)] := by kernel_rfl
theorem ta_14 : tyAgg Try.prog 14 = some (some 2) := by kernel_rfl
theorem ts_14 : (Try.prog.info? 14).map (·.size) = some 2 := by kernel_rfl
theorem tz_14 : tyZero Try.prog 14 = some (.agg #[(.string ⟨#[]⟩), (.int .u64 0)]) := by kernel_rfl
theorem tf_14_0 : tyFld Try.prog 14 0 = some 0 := by kernel_rfl
theorem tf_14_1 : tyFld Try.prog 14 1 = some 1 := by kernel_rfl
theorem tfl_14 : tyFlds Try.prog 14 = some [(0, 1), (1, 1)] := by kernel_rfl
theorem ta_15 : tyAgg Try.prog 15 = some none := by kernel_rfl
theorem ts_15 : (Try.prog.info? 15).map (·.size) = some 1 := by kernel_rfl
theorem tz_15 : tyZero Try.prog 15 = some (.pointer none) := by kernel_rfl
theorem tu_15 : Try.prog.underlying 15 = some (.pointer 119) := by kernel_rfl
theorem ta_16 : tyAgg Try.prog 16 = some none := by kernel_rfl
theorem ts_16 : (Try.prog.info? 16).map (·.size) = some 1 := by kernel_rfl
theorem tz_16 : tyZero Try.prog 16 = some (.pointer none) := by kernel_rfl
theorem tu_16 : Try.prog.underlying 16 = some (.pointer 122) := by kernel_rfl
theorem ta_17 : tyAgg Try.prog 17 = some none := by kernel_rfl
theorem ts_17 : (Try.prog.info? 17).map (·.size) = some 1 := by kernel_rfl
theorem tz_17 : tyZero Try.prog 17 = some (.pointer none) := by kernel_rfl
theorem tu_17 : Try.prog.underlying 17 = some (.pointer 131) := by kernel_rfl
theorem ta_18 : tyAgg Try.prog 18 = some (some 1) := by kernel_rfl
theorem ts_18 : (Try.prog.info? 18).map (·.size) = some 1 := by kernel_rfl
theorem tz_18 : tyZero Try.prog 18 = some (.agg #[(.pointer none)]) := by kernel_rfl
theorem tf_18_0 : tyFld Try.prog 18 0 = some 0 := by kernel_rfl
theorem tfl_18 : tyFlds Try.prog 18 = some [(0, 1)] := by kernel_rfl
theorem ta_19 : tyAgg Try.prog 19 = some (some 1) := by kernel_rfl
theorem ts_19 : (Try.prog.info? 19).map (·.size) = some 1 := by kernel_rfl
theorem tz_19 : tyZero Try.prog 19 = some (.agg #[(.pointer none)]) := by kernel_rfl
theorem tf_19_0 : tyFld Try.prog 19 0 = some 0 := by kernel_rfl
theorem tfl_19 : tyFlds Try.prog 19 = some [(0, 1)] := by kernel_rfl
theorem ta_20 : tyAgg Try.prog 20 = some none := by kernel_rfl
theorem ts_20 : (Try.prog.info? 20).map (·.size) = some 1 := by kernel_rfl
theorem tz_20 : tyZero Try.prog 20 = some .nilIface := by kernel_rfl
theorem ta_21 : tyAgg Try.prog 21 = some none := by kernel_rfl
theorem ts_21 : (Try.prog.info? 21).map (·.size) = some 1 := by kernel_rfl
theorem tz_21 : tyZero Try.prog 21 = some (.int .i32 0) := by kernel_rfl
theorem tu_21 : Try.prog.underlying 21 = some (.int .i32) := by kernel_rfl
theorem ta_22 : tyAgg Try.prog 22 = some none := by kernel_rfl
theorem ts_22 : (Try.prog.info? 22).map (·.size) = some 1 := by kernel_rfl
theorem tz_22 : tyZero Try.prog 22 = some (.slice none 0 0) := by kernel_rfl
theorem te_22 : tyElem Try.prog 22 = some (38, 7) := by kernel_rfl
theorem el_22 : ElT Try.prog 22 38 (.agg #[(.int .i64 0), (.int .i64 0), (.int .i64 0), (.int .i64 0), (.int .i64 0), (.slice none 0 0), (.slice none 0 0)]) 7 88 := ⟨by kernel_rfl, by kernel_rfl, rfl, by decide, by decide⟩
theorem tu_22 : Try.prog.underlying 22 = some (.slice 38) := by kernel_rfl
theorem ta_23 : tyAgg Try.prog 23 = some none := by kernel_rfl
theorem ts_23 : (Try.prog.info? 23).map (·.size) = some 1 := by kernel_rfl
theorem tz_23 : tyZero Try.prog 23 = some .nilFunc := by kernel_rfl
theorem ta_24 : tyAgg Try.prog 24 = some none := by kernel_rfl
theorem ts_24 : (Try.prog.info? 24).map (·.size) = some 1 := by kernel_rfl
theorem tz_24 : tyZero Try.prog 24 = some .nilFunc := by kernel_rfl
theorem ta_25 : tyAgg Try.prog 25 = some none := by kernel_rfl
theorem ts_25 : (Try.prog.info? 25).map (·.size) = some 1 := by kernel_rfl
theorem tz_25 : tyZero Try.prog 25 = some (.pointer none) := by kernel_rfl
theorem tu_25 : Try.prog.underlying 25 = some (.pointer 81) := by kernel_rfl
theorem ta_26 : tyAgg Try.prog 26 = some none := by kernel_rfl
theorem ts_26 : (Try.prog.info? 26).map (·.size) = some 1 := by kernel_rfl
theorem tz_26 : tyZero Try.prog 26 = some (.int .i64 0) := by kernel_rfl
theorem tu_26 : Try.prog.underlying 26 = some (.int .i64) := by kernel_rfl
theorem ta_28 : tyAgg Try.prog 28 = some none := by kernel_rfl
theorem ts_28 : (Try.prog.info? 28).map (·.size) = some 1 := by kernel_rfl
theorem tz_28 : tyZero Try.prog 28 = some .nilFunc := by kernel_rfl
theorem ta_29 : tyAgg Try.prog 29 = some none := by kernel_rfl
theorem ts_29 : (Try.prog.info? 29).map (·.size) = some 1 := by kernel_rfl
theorem tz_29 : tyZero Try.prog 29 = some .nilFunc := by kernel_rfl
theorem ta_30 : tyAgg Try.prog 30 = some none := by kernel_rfl
theorem ts_30 : (Try.prog.info? 30).map (·.size) = some 1 := by kernel_rfl
theorem tz_30 : tyZero Try.prog 30 = some (.pointer none) := by kernel_rfl
theorem tu_30 : Try.prog.underlying 30 = some (.pointer 33) := by kernel_rfl
theorem ta_31 : tyAgg Try.prog 31 = some none := by kernel_rfl
theorem ts_31 : (Try.prog.info? 31).map (·.size) = some 1 := by kernel_rfl
theorem tz_31 : tyZero Try.prog 31 = some (.slice none 0 0) := by kernel_rfl
theorem te_31 : tyElem Try.prog 31 = some (86, 4) := by kernel_rfl
theorem el_31 : ElT Try.prog 31 86 (.agg #[(.int .i64 0), (.int .i64 0), (.int .i64 0), (.slice none 0 0)]) 4 48 := ⟨by kernel_rfl, by kernel_rfl, rfl, by decide, by decide⟩
theorem tu_31 : Try.prog.underlying 31 = some (.slice 86) := by kernel_rfl
theorem ta_32 : tyAgg Try.prog 32 = some (some 2) := by kernel_rfl
theorem ts_32 : (Try.prog.info? 32).map (·.size) = some 2 := by kernel_rfl
theorem tz_32 : tyZero Try.prog 32 = some (.agg #[(.int .i64 0), (.slice none 0 0)]) := by kernel_rfl
theorem tf_32_0 : tyFld Try.prog 32 0 = some 0 := by kernel_rfl
theorem tf_32_1 : tyFld Try.prog 32 1 = some 1 := by kernel_rfl
theorem tfl_32 : tyFlds Try.prog 32 = some [(0, 1), (1, 1)] := by kernel_rfl
theorem ta_33 : tyAgg Try.prog 33 = some (some 2) := by kernel_rfl
theorem ts_33 : (Try.prog.info? 33).map (·.size) = some 2 := by kernel_rfl
theorem tz_33 : tyZero Try.prog 33 = some (.agg #[(.int .i64 0), (.slice none 0 0)]) := by kernel_rfl
theorem tf_33_0 : tyFld Try.prog 33 0 = some 0 := by kernel_rfl
theorem tf_33_1 : tyFld Try.prog 33 1 = some 1 := by kernel_rfl
theorem tfl_33 : tyFlds Try.prog 33 = some [(0, 1), (1, 1)] := by kernel_rfl
theorem ta_34 : tyAgg Try.prog 34 = some none := by kernel_rfl
theorem ts_34 : (Try.prog.info? 34).map (·.size) = some 1 := by kernel_rfl
theorem tz_34 : tyZero Try.prog 34 = some (.slice none 0 0) := by kernel_rfl
theorem te_34 : tyElem Try.prog 34 = some (42, 1) := by kernel_rfl
theorem el_34 : ElT Try.prog 34 42 (.int .u64 0) 1 8 := ⟨by kernel_rfl, by kernel_rfl, rfl, by decide, by decide⟩
theorem tu_34 : Try.prog.underlying 34 = some (.slice 42) := by kernel_rfl
theorem ta_35 : tyAgg Try.prog 35 = some none := by kernel_rfl
theorem ts_35 : (Try.prog.info? 35).map (·.size) = some 1 := by kernel_rfl
theorem tz_35 : tyZero Try.prog 35 = some (.slice none 0 0) := by kernel_rfl
theorem te_35 : tyElem Try.prog 35 = some (2, 1) := by kernel_rfl
theorem el_35 : ElT Try.prog 35 2 (.int .i64 0) 1 8 := ⟨by kernel_rfl, by kernel_rfl, rfl, by decide, by decide⟩
theorem tu_35 : Try.prog.underlying 35 = some (.slice 2) := by kernel_rfl
theorem ta_36 : tyAgg Try.prog 36 = some none := by kernel_rfl
theorem ts_36 : (Try.prog.info? 36).map (·.size) = some 1 := by kernel_rfl
theorem tz_36 : tyZero Try.prog 36 = some (.slice none 0 0) := by kernel_rfl
theorem te_36 : tyElem Try.prog 36 = some (3, 1) := by kernel_rfl
theorem el_36 : ElT Try.prog 36 3 (.int .i64 0) 1 8 := ⟨by kernel_rfl, by kernel_rfl, rfl, by decide, by decide⟩
theorem tu_36 : Try.prog.underlying 36 = some (.slice 3) := by kernel_rfl
theorem ta_37 : tyAgg Try.prog 37 = some (some 7) := by kernel_rfl
theorem ts_37 : (Try.prog.info? 37).map (·.size) = some 7 := by kernel_rfl
theorem tz_37 : tyZero Try.prog 37 = some (.agg #[(.int .i64 0), (.int .i64 0), (.int .i64 0), (.int .i64 0), (.int .i64 0), (.slice none 0 0), (.slice none 0 0)]) := by kernel_rfl
theorem tf_37_0 : tyFld Try.prog 37 0 = some 0 := by kernel_rfl
theorem tf_37_1 : tyFld Try.prog 37 1 = some 1 := by kernel_rfl
theorem tf_37_2 : tyFld Try.prog 37 2 = some 2 := by kernel_rfl
theorem tf_37_3 : tyFld Try.prog 37 3 = some 3 := by kernel_rfl
theorem tf_37_4 : tyFld Try.prog 37 4 = some 4 := by kernel_rfl
theorem tf_37_5 : tyFld Try.prog 37 5 = some 5 := by kernel_rfl
theorem tf_37_6 : tyFld Try.prog 37 6 = some 6 := by kernel_rfl
theorem tfl_37 : tyFlds Try.prog 37 = some [(0, 1), (1, 1), (2, 1), (3, 1), (4, 1), (5, 1), (6, 1)] := by kernel_rfl
theorem ta_38 : tyAgg Try.prog 38 = some (some 7) := by kernel_rfl
theorem ts_38 : (Try.prog.info? 38).map (·.size) = some 7 := by kernel_rfl
theorem tz_38 : tyZero Try.prog 38 = some (.agg #[(.int .i64 0), (.int .i64 0), (.int .i64 0), (.int .i64 0), (.int .i64 0), (.slice none 0 0), (.slice none 0 0)]) := by kernel_rfl
theorem tf_38_0 : tyFld Try.prog 38 0 = some 0 := by kernel_rfl
theorem tf_38_1 : tyFld Try.prog 38 1 = some 1 := by kernel_rfl
theorem tf_38_2 : tyFld Try.prog 38 2 = some 2 := by kernel_rfl
theorem tf_38_3 : tyFld Try.prog 38 3 = some 3 := by kernel_rfl
theorem tf_38_4 : tyFld Try.prog 38 4 = some 4 := by kernel_rfl
theorem tf_38_5 : tyFld Try.prog 38 5 = some 5 := by kernel_rfl
theorem tf_38_6 : tyFld Try.prog 38 6 = some 6 := by kernel_rfl
theorem tfl_38 : tyFlds Try.prog 38 = some [(0, 1), (1, 1), (2, 1), (3, 1), (4, 1), (5, 1), (6, 1)] := by kernel_rfl
theorem ta_40 : tyAgg Try.prog 40 = some none := by kernel_rfl
theorem ts_40 : (Try.prog.info? 40).map (·.size) = some 1 := by kernel_rfl
theorem tz_40 : tyZero Try.prog 40 = some .nilFunc := by kernel_rfl
theorem ta_41 : tyAgg Try.prog 41 = some none := by kernel_rfl
theorem ts_41 : (Try.prog.info? 41).map (·.size) = some 1 := by kernel_rfl
theorem tz_41 : tyZero Try.prog 41 = some .nilFunc := by kernel_rfl
theorem ta_42 : tyAgg Try.prog 42 = some none := by kernel_rfl
theorem ts_42 : (Try.prog.info? 42).map (·.size) = some 1 := by kernel_rfl
theorem tz_42 : tyZero Try.prog 42 = some (.int .u64 0) := by kernel_rfl
theorem tu_42 : Try.prog.underlying 42 = some (.int .u64) := by kernel_rfl
theorem ta_43 : tyAgg Try.prog 43 = some none := by kernel_rfl
theorem ts_43 : (Try.prog.info? 43).map (·.size) = some 1 := by kernel_rfl
theorem tz_43 : tyZero Try.prog 43 = some .nilFunc := by kernel_rfl
theorem ta_44 : tyAgg Try.prog 44 = some none := by kernel_rfl
theorem ts_44 : (Try.prog.info? 44).map (·.size) = some 1 := by kernel_rfl
theorem tz_44 : tyZero Try.prog 44 = some .nilFunc := by kernel_rfl
theorem ta_45 : tyAgg Try.prog 45 = some none := by kernel_rfl
theorem ts_45 : (Try.prog.info? 45).map (·.size) = some 1 := by kernel_rfl
theorem tz_45 : tyZero Try.prog 45 = some (.slice none 0 0) := by kernel_rfl
theorem te_45 : tyElem Try.prog 45 = some (34, 1) := by kernel_rfl
theorem el_45 : ElT Try.prog 45 34 (.slice none 0 0) 1 24 := ⟨by kernel_rfl, by kernel_rfl, rfl, by decide, by decide⟩
theorem tu_45 : Try.prog.underlying 45 = some (.slice 34) := by kernel_rfl
theorem ta_47 : tyAgg Try.prog 47 = some none := by kernel_rfl
theorem ts_47 : (Try.prog.info? 47).map (·.size) = some 1 := by kernel_rfl
theorem tz_47 : tyZero Try.prog 47 = some .nilFunc := by kernel_rfl
theorem ta_48 : tyAgg Try.prog 48 = some none := by kernel_rfl
theorem ts_48 : (Try.prog.info? 48).map (·.size) = some 1 := by kernel_rfl
theorem tz_48 : tyZero Try.prog 48 = some .nilFunc := by kernel_rfl
theorem ta_49 : tyAgg Try.prog 49 = some none := by kernel_rfl
theorem ts_49 : (Try.prog.info? 49).map (·.size) = some 1 := by kernel_rfl
theorem tz_49 : tyZero Try.prog 49 = some .nilFunc := by kernel_rfl
theorem ta_50 : tyAgg Try.prog 50 = some none := by kernel_rfl
theorem ts_50 : (Try.prog.info? 50).map (·.size) = some 1 := by kernel_rfl
theorem tz_50 : tyZero Try.prog 50 = some .nilFunc := by kernel_rfl
theorem ta_51 : tyAgg Try.prog 51 = some none := by kernel_rfl
theorem ts_51 : (Try.prog.info? 51).map (·.size) = some 1 := by kernel_rfl
theorem tz_51 : tyZero Try.prog 51 = some .nilFunc := by kernel_rfl
theorem ta_53 : tyAgg Try.prog 53 = some none := by kernel_rfl
theorem ts_53 : (Try.prog.info? 53).map (·.size) = some 1 := by kernel_rfl
theorem tz_53 : tyZero Try.prog 53 = some .nilFunc := by kernel_rfl
theorem ta_54 : tyAgg Try.prog 54 = some none := by kernel_rfl
theorem ts_54 : (Try.prog.info? 54).map (·.size) = some 1 := by kernel_rfl
theorem tz_54 : tyZero Try.prog 54 = some .nilFunc := by kernel_rfl
theorem ta_55 : tyAgg Try.prog 55 = some none := by kernel_rfl
theorem ts_55 : (Try.prog.info? 55).map (·.size) = some 1 := by kernel_rfl
theorem tz_55 : tyZero Try.prog 55 = some .nilFunc := by kernel_rfl
theorem ta_56 : tyAgg Try.prog 56 = some none := by kernel_rfl
theorem ts_56 : (Try.prog.info? 56).map (·.size) = some 1 := by kernel_rfl
theorem tz_56 : tyZero Try.prog 56 = some .nilFunc := by kernel_rfl
theorem ta_57 : tyAgg Try.prog 57 = some none := by kernel_rfl
theorem ts_57 : (Try.prog.info? 57).map (·.size) = some 1 := by kernel_rfl
theorem tz_57 : tyZero Try.prog 57 = some (.slice none 0 0) := by kernel_rfl
theorem te_57 : tyElem Try.prog 57 = some (9, 1) := by kernel_rfl
theorem el_57 : ElT Try.prog 57 9 (.string ⟨#[]⟩) 1 16 := ⟨by kernel_rfl, by kernel_rfl, rfl, by decide, by decide⟩
theorem tu_57 : Try.prog.underlying 57 = some (.slice 9) := by kernel_rfl
theorem ta_58 : tyAgg Try.prog 58 = some none := by kernel_rfl
theorem ts_58 : (Try.prog.info? 58).map (·.size) = some 1 := by kernel_rfl
theorem tz_58 : tyZero Try.prog 58 = some (.slice none 0 0) := by kernel_rfl
theorem te_58 : tyElem Try.prog 58 = some (100, 3) := by kernel_rfl
theorem el_58 : ElT Try.prog 58 100 (.agg #[(.int .i64 0), (.int .i64 0), (.slice none 0 0)]) 3 40 := ⟨by kernel_rfl, by kernel_rfl, rfl, by decide, by decide⟩
theorem tu_58 : Try.prog.underlying 58 = some (.slice 100) := by kernel_rfl
theorem ta_59 : tyAgg Try.prog 59 = some none := by kernel_rfl
theorem ts_59 : (Try.prog.info? 59).map (·.size) = some 1 := by kernel_rfl
theorem tz_59 : tyZero Try.prog 59 = some .nilFunc := by kernel_rfl
theorem ta_61 : tyAgg Try.prog 61 = some none := by kernel_rfl
theorem ts_61 : (Try.prog.info? 61).map (·.size) = some 1 := by kernel_rfl
theorem tz_61 : tyZero Try.prog 61 = some .nilFunc := by kernel_rfl
theorem ta_62 : tyAgg Try.prog 62 = some none := by kernel_rfl
theorem ts_62 : (Try.prog.info? 62).map (·.size) = some 1 := by kernel_rfl
theorem tz_62 : tyZero Try.prog 62 = some .nilFunc := by kernel_rfl
theorem ta_64 : tyAgg Try.prog 64 = some none := by kernel_rfl
theorem ts_64 : (Try.prog.info? 64).map (·.size) = some 1 := by kernel_rfl
theorem tz_64 : tyZero Try.prog 64 = some .nilFunc := by kernel_rfl
theorem ta_65 : tyAgg Try.prog 65 = some none := by kernel_rfl
theorem ts_65 : (Try.prog.info? 65).map (·.size) = some 1 := by kernel_rfl
theorem tz_65 : tyZero Try.prog 65 = some .nilFunc := by kernel_rfl
theorem ta_67 : tyAgg Try.prog 67 = some none := by kernel_rfl
theorem ts_67 : (Try.prog.info? 67).map (·.size) = some 1 := by kernel_rfl
theorem tz_67 : tyZero Try.prog 67 = some .nilFunc := by kernel_rfl
theorem ta_68 : tyAgg Try.prog 68 = some none := by kernel_rfl
theorem ts_68 : (Try.prog.info? 68).map (·.size) = some 1 := by kernel_rfl
theorem tz_68 : tyZero Try.prog 68 = some .nilFunc := by kernel_rfl
theorem ta_69 : tyAgg Try.prog 69 = some none := by kernel_rfl
theorem ts_69 : (Try.prog.info? 69).map (·.size) = some 1 := by kernel_rfl
theorem tz_69 : tyZero Try.prog 69 = some .nilFunc := by kernel_rfl
theorem ta_70 : tyAgg Try.prog 70 = some none := by kernel_rfl
theorem ts_70 : (Try.prog.info? 70).map (·.size) = some 1 := by kernel_rfl
theorem tz_70 : tyZero Try.prog 70 = some .nilFunc := by kernel_rfl
theorem ta_71 : tyAgg Try.prog 71 = some none := by kernel_rfl
theorem ts_71 : (Try.prog.info? 71).map (·.size) = some 1 := by kernel_rfl
theorem tz_71 : tyZero Try.prog 71 = some .nilFunc := by kernel_rfl
theorem ta_72 : tyAgg Try.prog 72 = some none := by kernel_rfl
theorem ts_72 : (Try.prog.info? 72).map (·.size) = some 1 := by kernel_rfl
theorem tz_72 : tyZero Try.prog 72 = some .nilFunc := by kernel_rfl
theorem ta_73 : tyAgg Try.prog 73 = some none := by kernel_rfl
theorem ts_73 : (Try.prog.info? 73).map (·.size) = some 1 := by kernel_rfl
theorem tz_73 : tyZero Try.prog 73 = some .nilFunc := by kernel_rfl
theorem ta_74 : tyAgg Try.prog 74 = some none := by kernel_rfl
theorem ts_74 : (Try.prog.info? 74).map (·.size) = some 1 := by kernel_rfl
theorem tz_74 : tyZero Try.prog 74 = some .nilFunc := by kernel_rfl
theorem ta_75 : tyAgg Try.prog 75 = some none := by kernel_rfl
theorem ts_75 : (Try.prog.info? 75).map (·.size) = some 1 := by kernel_rfl
theorem tz_75 : tyZero Try.prog 75 = some (.slice none 0 0) := by kernel_rfl
theorem te_75 : tyElem Try.prog 75 = some (4, 1) := by kernel_rfl
theorem el_75 : ElT Try.prog 75 4 (.bool false) 1 1 := ⟨by kernel_rfl, by kernel_rfl, rfl, by decide, by decide⟩
theorem tu_75 : Try.prog.underlying 75 = some (.slice 4) := by kernel_rfl
theorem ta_76 : tyAgg Try.prog 76 = some (some 2) := by kernel_rfl
theorem ts_76 : (Try.prog.info? 76).map (·.size) = some 2 := by kernel_rfl
theorem tz_76 : tyZero Try.prog 76 = some (.agg #[(.slice none 0 0), (.slice none 0 0)]) := by kernel_rfl
theorem tf_76_0 : tyFld Try.prog 76 0 = some 0 := by kernel_rfl
theorem tf_76_1 : tyFld Try.prog 76 1 = some 1 := by kernel_rfl
theorem tfl_76 : tyFlds Try.prog 76 = some [(0, 1), (1, 1)] := by kernel_rfl
theorem ta_77 : tyAgg Try.prog 77 = some (some 2) := by kernel_rfl
theorem ts_77 : (Try.prog.info? 77).map (·.size) = some 2 := by kernel_rfl
theorem tz_77 : tyZero Try.prog 77 = some (.agg #[(.slice none 0 0), (.slice none 0 0)]) := by kernel_rfl
theorem tf_77_0 : tyFld Try.prog 77 0 = some 0 := by kernel_rfl
theorem tf_77_1 : tyFld Try.prog 77 1 = some 1 := by kernel_rfl
theorem tfl_77 : tyFlds Try.prog 77 = some [(0, 1), (1, 1)] := by kernel_rfl
theorem ta_78 : tyAgg Try.prog 78 = some none := by kernel_rfl
theorem ts_78 : (Try.prog.info? 78).map (·.size) = some 1 := by kernel_rfl
theorem tz_78 : tyZero Try.prog 78 = some .nilFunc := by kernel_rfl
theorem ta_79 : tyAgg Try.prog 79 = some (some 4) := by kernel_rfl
theorem ts_79 : (Try.prog.info? 79).map (·.size) = some 4 := by kernel_rfl
theorem tz_79 : tyZero Try.prog 79 = some (.agg #[(.slice none 0 0), (.slice none 0 0), (.slice none 0 0), (.slice none 0 0)]) := by kernel_rfl
theorem tu_79 : Try.prog.underlying 79 = some (.array 2 77) := by kernel_rfl
theorem ta_80 : tyAgg Try.prog 80 = some (some 6) := by kernel_rfl
theorem ts_80 : (Try.prog.info? 80).map (·.size) = some 6 := by kernel_rfl
theorem tz_80 : tyZero Try.prog 80 = some (.agg #[(.int .i64 0), (.slice none 0 0), (.slice none 0 0), (.slice none 0 0), (.slice none 0 0), (.int .i64 0)]) := by kernel_rfl
theorem tf_80_0 : tyFld Try.prog 80 0 = some 0 := by kernel_rfl
theorem tf_80_1 : tyFld Try.prog 80 1 = some 1 := by kernel_rfl
theorem tf_80_2 : tyFld Try.prog 80 2 = some 5 := by kernel_rfl
theorem tfl_80 : tyFlds Try.prog 80 = some [(0, 1), (1, 4), (5, 1)] := by kernel_rfl
theorem ta_81 : tyAgg Try.prog 81 = some (some 6) := by kernel_rfl
theorem ts_81 : (Try.prog.info? 81).map (·.size) = some 6 := by kernel_rfl
theorem tz_81 : tyZero Try.prog 81 = some (.agg #[(.int .i64 0), (.slice none 0 0), (.slice none 0 0), (.slice none 0 0), (.slice none 0 0), (.int .i64 0)]) := by kernel_rfl
theorem tf_81_0 : tyFld Try.prog 81 0 = some 0 := by kernel_rfl
theorem tf_81_1 : tyFld Try.prog 81 1 = some 1 := by kernel_rfl
theorem tf_81_2 : tyFld Try.prog 81 2 = some 5 := by kernel_rfl
theorem tfl_81 : tyFlds Try.prog 81 = some [(0, 1), (1, 4), (5, 1)] := by kernel_rfl
theorem ta_82 : tyAgg Try.prog 82 = some none := by kernel_rfl
theorem ts_82 : (Try.prog.info? 82).map (·.size) = some 1 := by kernel_rfl
theorem tz_82 : tyZero Try.prog 82 = some .nilFunc := by kernel_rfl
theorem ta_83 : tyAgg Try.prog 83 = some none := by kernel_rfl
theorem ts_83 : (Try.prog.info? 83).map (·.size) = some 1 := by kernel_rfl
theorem tz_83 : tyZero Try.prog 83 = some .nilFunc := by kernel_rfl
theorem ta_84 : tyAgg Try.prog 84 = some none := by kernel_rfl
theorem ts_84 : (Try.prog.info? 84).map (·.size) = some 1 := by kernel_rfl
theorem tz_84 : tyZero Try.prog 84 = some .nilFunc := by kernel_rfl
theorem ta_85 : tyAgg Try.prog 85 = some (some 4) := by kernel_rfl
theorem ts_85 : (Try.prog.info? 85).map (·.size) = some 4 := by kernel_rfl
theorem tz_85 : tyZero Try.prog 85 = some (.agg #[(.int .i64 0), (.int .i64 0), (.int .i64 0), (.slice none 0 0)]) := by kernel_rfl
theorem tf_85_0 : tyFld Try.prog 85 0 = some 0 := by kernel_rfl
theorem tf_85_1 : tyFld Try.prog 85 1 = some 1 := by kernel_rfl
theorem tf_85_2 : tyFld Try.prog 85 2 = some 2 := by kernel_rfl
theorem tf_85_3 : tyFld Try.prog 85 3 = some 3 := by kernel_rfl
theorem tfl_85 : tyFlds Try.prog 85 = some [(0, 1), (1, 1), (2, 1), (3, 1)] := by kernel_rfl
theorem ta_86 : tyAgg Try.prog 86 = some (some 4) := by kernel_rfl
theorem ts_86 : (Try.prog.info? 86).map (·.size) = some 4 := by kernel_rfl
theorem tz_86 : tyZero Try.prog 86 = some (.agg #[(.int .i64 0), (.int .i64 0), (.int .i64 0), (.slice none 0 0)]) := by kernel_rfl
theorem tf_86_0 : tyFld Try.prog 86 0 = some 0 := by kernel_rfl
theorem tf_86_1 : tyFld Try.prog 86 1 = some 1 := by kernel_rfl
theorem tf_86_2 : tyFld Try.prog 86 2 = some 2 := by kernel_rfl
theorem tf_86_3 : tyFld Try.prog 86 3 = some 3 := by kernel_rfl
theorem tfl_86 : tyFlds Try.prog 86 = some [(0, 1), (1, 1), (2, 1), (3, 1)] := by kernel_rfl
theorem ta_87 : tyAgg Try.prog 87 = some none := by kernel_rfl
theorem ts_87 : (Try.prog.info? 87).map (·.size) = some 1 := by kernel_rfl
theorem tz_87 : tyZero Try.prog 87 = some (.pointer none) := by kernel_rfl
theorem tu_87 : Try.prog.underlying 87 = some (.pointer 77) := by kernel_rfl
theorem ta_88 : tyAgg Try.prog 88 = some none := by kernel_rfl
theorem ts_88 : (Try.prog.info? 88).map (·.size) = some 1 := by kernel_rfl
theorem tz_88 : tyZero Try.prog 88 = some .nilFunc := by kernel_rfl
theorem ta_89 : tyAgg Try.prog 89 = some (some 2) := by kernel_rfl
theorem ts_89 : (Try.prog.info? 89).map (·.size) = some 2 := by kernel_rfl
theorem tz_89 : tyZero Try.prog 89 = some (.agg #[(.pointer none), (.pointer none)]) := by kernel_rfl
theorem tf_89_0 : tyFld Try.prog 89 0 = some 0 := by kernel_rfl
theorem tf_89_1 : tyFld Try.prog 89 1 = some 1 := by kernel_rfl
theorem tfl_89 : tyFlds Try.prog 89 = some [(0, 1), (1, 1)] := by kernel_rfl
theorem ta_90 : tyAgg Try.prog 90 = some (some 2) := by kernel_rfl
theorem ts_90 : (Try.prog.info? 90).map (·.size) = some 2 := by kernel_rfl
theorem tz_90 : tyZero Try.prog 90 = some (.agg #[(.pointer none), (.pointer none)]) := by kernel_rfl
theorem tf_90_0 : tyFld Try.prog 90 0 = some 0 := by kernel_rfl
theorem tf_90_1 : tyFld Try.prog 90 1 = some 1 := by kernel_rfl
theorem tfl_90 : tyFlds Try.prog 90 = some [(0, 1), (1, 1)] := by kernel_rfl
theorem ta_91 : tyAgg Try.prog 91 = some none := by kernel_rfl
theorem ts_91 : (Try.prog.info? 91).map (·.size) = some 1 := by kernel_rfl
theorem tz_91 : tyZero Try.prog 91 = some .nilFunc := by kernel_rfl
theorem ta_93 : tyAgg Try.prog 93 = some none := by kernel_rfl
theorem ts_93 : (Try.prog.info? 93).map (·.size) = some 1 := by kernel_rfl
theorem tz_93 : tyZero Try.prog 93 = some .nilFunc := by kernel_rfl
theorem ta_94 : tyAgg Try.prog 94 = some none := by kernel_rfl
theorem ts_94 : (Try.prog.info? 94).map (·.size) = some 1 := by kernel_rfl
theorem tz_94 : tyZero Try.prog 94 = some .nilFunc := by kernel_rfl
theorem ta_95 : tyAgg Try.prog 95 = some none := by kernel_rfl
theorem ts_95 : (Try.prog.info? 95).map (·.size) = some 1 := by kernel_rfl
theorem tz_95 : tyZero Try.prog 95 = some .nilFunc := by kernel_rfl
theorem ta_96 : tyAgg Try.prog 96 = some none := by kernel_rfl
theorem ts_96 : (Try.prog.info? 96).map (·.size) = some 1 := by kernel_rfl
theorem tz_96 : tyZero Try.prog 96 = some (.pointer none) := by kernel_rfl
theorem tu_96 : Try.prog.underlying 96 = some (.pointer 42) := by kernel_rfl
theorem ta_98 : tyAgg Try.prog 98 = some none := by kernel_rfl
theorem ts_98 : (Try.prog.info? 98).map (·.size) = some 1 := by kernel_rfl
theorem tz_98 : tyZero Try.prog 98 = some .nilFunc := by kernel_rfl
theorem ta_99 : tyAgg Try.prog 99 = some (some 3) := by kernel_rfl
theorem ts_99 : (Try.prog.info? 99).map (·.size) = some 3 := by kernel_rfl
theorem tz_99 : tyZero Try.prog 99 = some (.agg #[(.int .i64 0), (.int .i64 0), (.slice none 0 0)]) := by kernel_rfl
theorem tf_99_0 : tyFld Try.prog 99 0 = some 0 := by kernel_rfl
theorem tf_99_1 : tyFld Try.prog 99 1 = some 1 := by kernel_rfl
theorem tf_99_2 : tyFld Try.prog 99 2 = some 2 := by kernel_rfl
theorem tfl_99 : tyFlds Try.prog 99 = some [(0, 1), (1, 1), (2, 1)] := by kernel_rfl
theorem ta_100 : tyAgg Try.prog 100 = some (some 3) := by kernel_rfl
theorem ts_100 : (Try.prog.info? 100).map (·.size) = some 3 := by kernel_rfl
theorem tz_100 : tyZero Try.prog 100 = some (.agg #[(.int .i64 0), (.int .i64 0), (.slice none 0 0)]) := by kernel_rfl
theorem tf_100_0 : tyFld Try.prog 100 0 = some 0 := by kernel_rfl
theorem tf_100_1 : tyFld Try.prog 100 1 = some 1 := by kernel_rfl
theorem tf_100_2 : tyFld Try.prog 100 2 = some 2 := by kernel_rfl
theorem tfl_100 : tyFlds Try.prog 100 = some [(0, 1), (1, 1), (2, 1)] := by kernel_rfl
theorem ta_102 : tyAgg Try.prog 102 = some none := by kernel_rfl
theorem ts_102 : (Try.prog.info? 102).map (·.size) = some 1 := by kernel_rfl
theorem tz_102 : tyZero Try.prog 102 = some .nilFunc := by kernel_rfl
theorem ta_104 : tyAgg Try.prog 104 = some none := by kernel_rfl
theorem ts_104 : (Try.prog.info? 104).map (·.size) = some 1 := by kernel_rfl
theorem tz_104 : tyZero Try.prog 104 = some .nilFunc := by kernel_rfl
theorem ta_105 : tyAgg Try.prog 105 = some none := by kernel_rfl
theorem ts_105 : (Try.prog.info? 105).map (·.size) = some 1 := by kernel_rfl
theorem tz_105 : tyZero Try.prog 105 = some (.slice none 0 0) := by kernel_rfl
theorem te_105 : tyElem Try.prog 105 = some (5, 1) := by kernel_rfl
theorem el_105 : ElT Try.prog 105 5 (.int .u8 0) 1 1 := ⟨by kernel_rfl, by kernel_rfl, rfl, by decide, by decide⟩
theorem tu_105 : Try.prog.underlying 105 = some (.slice 5) := by kernel_rfl
theorem ta_106 : tyAgg Try.prog 106 = some none := by kernel_rfl
theorem ts_106 : (Try.prog.info? 106).map (·.size) = some 1 := by kernel_rfl
theorem tz_106 : tyZero Try.prog 106 = some .nilFunc := by kernel_rfl
theorem ta_107 : tyAgg Try.prog 107 = some none := by kernel_rfl
theorem ts_107 : (Try.prog.info? 107).map (·.size) = some 1 := by kernel_rfl
theorem tz_107 : tyZero Try.prog 107 = some .nilFunc := by kernel_rfl
theorem ta_109 : tyAgg Try.prog 109 = some none := by kernel_rfl
theorem ts_109 : (Try.prog.info? 109).map (·.size) = some 1 := by kernel_rfl
theorem tz_109 : tyZero Try.prog 109 = some .nilFunc := by kernel_rfl
theorem ta_110 : tyAgg Try.prog 110 = some none := by kernel_rfl
theorem ts_110 : (Try.prog.info? 110).map (·.size) = some 1 := by kernel_rfl
theorem tz_110 : tyZero Try.prog 110 = some .nilFunc := by kernel_rfl
theorem ta_111 : tyAgg Try.prog 111 = some none := by kernel_rfl
theorem ts_111 : (Try.prog.info? 111).map (·.size) = some 1 := by kernel_rfl
theorem tz_111 : tyZero Try.prog 111 = some .nilFunc := by kernel_rfl
theorem ta_112 : tyAgg Try.prog 112 = some none := by kernel_rfl
theorem ts_112 : (Try.prog.info? 112).map (·.size) = some 1 := by kernel_rfl
theorem tz_112 : tyZero Try.prog 112 = some .nilFunc := by kernel_rfl
theorem ta_113 : tyAgg Try.prog 113 = some none := by kernel_rfl
theorem ts_113 : (Try.prog.info? 113).map (·.size) = some 1 := by kernel_rfl
theorem tz_113 : tyZero Try.prog 113 = some (.int .u64 0) := by kernel_rfl
theorem tu_113 : Try.prog.underlying 113 = some (.int .u64) := by kernel_rfl
theorem ta_115 : tyAgg Try.prog 115 = some none := by kernel_rfl
theorem ts_115 : (Try.prog.info? 115).map (·.size) = some 1 := by kernel_rfl
theorem tz_115 : tyZero Try.prog 115 = some .nilFunc := by kernel_rfl
theorem ta_116 : tyAgg Try.prog 116 = some none := by kernel_rfl
theorem ts_116 : (Try.prog.info? 116).map (·.size) = some 1 := by kernel_rfl
theorem tz_116 : tyZero Try.prog 116 = some .nilFunc := by kernel_rfl
theorem ta_117 : tyAgg Try.prog 117 = some none := by kernel_rfl
theorem ts_117 : (Try.prog.info? 117).map (·.size) = some 1 := by kernel_rfl
theorem tz_117 : tyZero Try.prog 117 = some .nilFunc := by kernel_rfl
theorem ta_118 : tyAgg Try.prog 118 = some (some 4) := by kernel_rfl
theorem ts_118 : (Try.prog.info? 118).map (·.size) = some 4 := by kernel_rfl
theorem tz_118 : tyZero Try.prog 118 = some (.agg #[(.pointer none), (.pointer none), (.pointer none), (.string ⟨#[]⟩)]) := by kernel_rfl
theorem tf_118_0 : tyFld Try.prog 118 0 = some 0 := by kernel_rfl
theorem tf_118_1 : tyFld Try.prog 118 1 = some 1 := by kernel_rfl
theorem tf_118_2 : tyFld Try.prog 118 2 = some 2 := by kernel_rfl
theorem tf_118_3 : tyFld Try.prog 118 3 = some 3 := by kernel_rfl
theorem tfl_118 : tyFlds Try.prog 118 = some [(0, 1), (1, 1), (2, 1), (3, 1)] := by kernel_rfl
theorem ta_119 : tyAgg Try.prog 119 = some (some 4) := by kernel_rfl
theorem ts_119 : (Try.prog.info? 119).map (·.size) = some 4 := by kernel_rfl
theorem tz_119 : tyZero Try.prog 119 = some (.agg #[(.pointer none), (.pointer none), (.pointer none), (.string ⟨#[]⟩)]) := by kernel_rfl
theorem tf_119_0 : tyFld Try.prog 119 0 = some 0 := by kernel_rfl
theorem tf_119_1 : tyFld Try.prog 119 1 = some 1 := by kernel_rfl
theorem tf_119_2 : tyFld Try.prog 119 2 = some 2 := by kernel_rfl
theorem tf_119_3 : tyFld Try.prog 119 3 = some 3 := by kernel_rfl
theorem tfl_119 : tyFlds Try.prog 119 = some [(0, 1), (1, 1), (2, 1), (3, 1)] := by kernel_rfl
theorem ta_120 : tyAgg Try.prog 120 = some (some 0) := by kernel_rfl
theorem ts_120 : (Try.prog.info? 120).map (·.size) = some 0 := by kernel_rfl
theorem tz_120 : tyZero Try.prog 120 = some (.agg #[]) := by kernel_rfl
theorem tu_120 : Try.prog.underlying 120 = some (.array 0 16) := by kernel_rfl
theorem ta_121 : tyAgg Try.prog 121 = some (some 0) := by kernel_rfl
theorem ts_121 : (Try.prog.info? 121).map (·.size) = some 0 := by kernel_rfl
theorem tz_121 : tyZero Try.prog 121 = some (.agg #[]) := by kernel_rfl
theorem tfl_121 : tyFlds Try.prog 121 = some [(0, 0)] := by kernel_rfl
theorem ta_122 : tyAgg Try.prog 122 = some (some 0) := by kernel_rfl
theorem ts_122 : (Try.prog.info? 122).map (·.size) = some 0 := by kernel_rfl
theorem tz_122 : tyZero Try.prog 122 = some (.agg #[]) := by kernel_rfl
theorem tfl_122 : tyFlds Try.prog 122 = some [(0, 0)] := by kernel_rfl
theorem ta_123 : tyAgg Try.prog 123 = some none := by kernel_rfl
theorem ts_123 : (Try.prog.info? 123).map (·.size) = some 1 := by kernel_rfl
theorem tz_123 : tyZero Try.prog 123 = some (.int .u32 0) := by kernel_rfl
theorem tu_123 : Try.prog.underlying 123 = some (.int .u32) := by kernel_rfl
theorem ta_124 : tyAgg Try.prog 124 = some none := by kernel_rfl
theorem ts_124 : (Try.prog.info? 124).map (·.size) = some 1 := by kernel_rfl
theorem tz_124 : tyZero Try.prog 124 = some (.int .u8 0) := by kernel_rfl
theorem tu_124 : Try.prog.underlying 124 = some (.int .u8) := by kernel_rfl
theorem ta_125 : tyAgg Try.prog 125 = some none := by kernel_rfl
theorem ts_125 : (Try.prog.info? 125).map (·.size) = some 1 := by kernel_rfl
theorem tz_125 : tyZero Try.prog 125 = some (.int .u8 0) := by kernel_rfl
theorem tu_125 : Try.prog.underlying 125 = some (.int .u8) := by kernel_rfl
theorem ta_126 : tyAgg Try.prog 126 = some none := by kernel_rfl
theorem ts_126 : (Try.prog.info? 126).map (·.size) = some 1 := by kernel_rfl
theorem tz_126 : tyZero Try.prog 126 = some .nilFunc := by kernel_rfl
theorem ta_127 : tyAgg Try.prog 127 = some none := by kernel_rfl
theorem ts_127 : (Try.prog.info? 127).map (·.size) = some 1 := by kernel_rfl
theorem tz_127 : tyZero Try.prog 127 = some (.pointer none) := by kernel_rfl
theorem tu_127 : Try.prog.underlying 127 = some (.pointer 5) := by kernel_rfl
theorem ta_128 : tyAgg Try.prog 128 = some none := by kernel_rfl
theorem ts_128 : (Try.prog.info? 128).map (·.size) = some 1 := by kernel_rfl
theorem tz_128 : tyZero Try.prog 128 = some (.int .i32 0) := by kernel_rfl
theorem tu_128 : Try.prog.underlying 128 = some (.int .i32) := by kernel_rfl
theorem ta_129 : tyAgg Try.prog 129 = some none := by kernel_rfl
theorem ts_129 : (Try.prog.info? 129).map (·.size) = some 1 := by kernel_rfl
theorem tz_129 : tyZero Try.prog 129 = some (.int .i32 0) := by kernel_rfl
theorem tu_129 : Try.prog.underlying 129 = some (.int .i32) := by kernel_rfl
theorem ta_130 : tyAgg Try.prog 130 = some (some 11) := by kernel_rfl
theorem ts_130 : (Try.prog.info? 130).map (·.size) = some 11 := by kernel_rfl
theorem tz_130 : tyZero Try.prog 130 = some (.agg #[(.int .u64 0), (.int .u64 0), (.int .u32 0), (.int .u8 0), (.int .u8 0), (.int .u8 0), (.int .u8 0), .nilFunc, (.pointer none), (.int .i32 0), (.int .i32 0)]) := by kernel_rfl
theorem tf_130_0 : tyFld Try.prog 130 0 = some 0 := by kernel_rfl
theorem tf_130_1 : tyFld Try.prog 130 1 = some 1 := by kernel_rfl
theorem tf_130_2 : tyFld Try.prog 130 2 = some 2 := by kernel_rfl
theorem tf_130_3 : tyFld Try.prog 130 3 = some 3 := by kernel_rfl
theorem tf_130_4 : tyFld Try.prog 130 4 = some 4 := by kernel_rfl
theorem tf_130_5 : tyFld Try.prog 130 5 = some 5 := by kernel_rfl
theorem tf_130_6 : tyFld Try.prog 130 6 = some 6 := by kernel_rfl
theorem tf_130_7 : tyFld Try.prog 130 7 = some 7 := by kernel_rfl
theorem tf_130_8 : tyFld Try.prog 130 8 = some 8 := by kernel_rfl
theorem tf_130_9 : tyFld Try.prog 130 9 = some 9 := by kernel_rfl
theorem tf_130_10 : tyFld Try.prog 130 10 = some 10 := by kernel_rfl
theorem tfl_130 : tyFlds Try.prog 130 = some [(0, 1), (1, 1), (2, 1), (3, 1), (4, 1), (5, 1), (6, 1), (7, 1), (8, 1), (9, 1), (10, 1)] := by kernel_rfl
theorem ta_131 : tyAgg Try.prog 131 = some (some 11) := by kernel_rfl
theorem ts_131 : (Try.prog.info? 131).map (·.size) = some 11 := by kernel_rfl
theorem tz_131 : tyZero Try.prog 131 = some (.agg #[(.int .u64 0), (.int .u64 0), (.int .u32 0), (.int .u8 0), (.int .u8 0), (.int .u8 0), (.int .u8 0), .nilFunc, (.pointer none), (.int .i32 0), (.int .i32 0)]) := by kernel_rfl
theorem tf_131_0 : tyFld Try.prog 131 0 = some 0 := by kernel_rfl
theorem tf_131_1 : tyFld Try.prog 131 1 = some 1 := by kernel_rfl
theorem tf_131_2 : tyFld Try.prog 131 2 = some 2 := by kernel_rfl
theorem tf_131_3 : tyFld Try.prog 131 3 = some 3 := by kernel_rfl
theorem tf_131_4 : tyFld Try.prog 131 4 = some 4 := by kernel_rfl
theorem tf_131_5 : tyFld Try.prog 131 5 = some 5 := by kernel_rfl
theorem tf_131_6 : tyFld Try.prog 131 6 = some 6 := by kernel_rfl
theorem tf_131_7 : tyFld Try.prog 131 7 = some 7 := by kernel_rfl
theorem tf_131_8 : tyFld Try.prog 131 8 = some 8 := by kernel_rfl
theorem tf_131_9 : tyFld Try.prog 131 9 = some 9 := by kernel_rfl
theorem tf_131_10 : tyFld Try.prog 131 10 = some 10 := by kernel_rfl
theorem tfl_131 : tyFlds Try.prog 131 = some [(0, 1), (1, 1), (2, 1), (3, 1), (4, 1), (5, 1), (6, 1), (7, 1), (8, 1), (9, 1), (10, 1)] := by kernel_rfl
end Go.Proofs.Ytecpnlhjjmcllaa
namespace Go.Proofs.Ytecpnlhjjmcllaa
open Go.RowKit
def iv (x : Int) : List AV := [.val (.int .u64 x)]
def bv (b : Bool) : List AV := [.val (.bool b)]
/-- the cells of a heap: its spaces, the one in use first or last -/
def spc : Bool → AV → AV → AV → AV → AV → AV → List AV
  | false, s, n, w, b, x, y => [s, w, b, x, y, n]
  | true, s, n, w, b, x, y => [s, x, y, w, b, n]
abbrev nowV (now : Bool) : AV := .val (.int .i64 (if now then 1 else 0))
/-- a heap lies at b -/
def HeapAt (b : Nat) (sz : Int) (H : List HO) (M : Mem) : Prop :=
  ∃ (now : Bool) (gw cw gb cb : Nat) (x y : AV), M = [.loc b (spc now (.val (.int .i64 sz)) (nowV now) (.val (rowv gw (used H + 1) cw)) (.val (rowv gb (used H + 1) cb)) x y), .row 42 1 (rowv gw (used H + 1) cw) ((hw H).map iv), .row 4 1 (rowv gb (used H + 1) cb) ((hb H).map bv)]
set_option maxHeartbeats 4000000 in
set_option maxRecDepth 100000 in
theorem empty_c : ACall Try.prog 38 [] [] (fun v M' => ∃ g1 g2, v = .agg [.val (rowv g1 1 1), .val (rowv g2 1 1)] ∧ M' = [.row 4 1 (rowv g2 1 1) [bv false], .row 42 1 (rowv g1 1 1) [iv 0]]) := by
  refine ACall.enter Try.func38 rfl (by kernel_rfl) rfl (Nat.le_of_ble_eq_true rfl) ?_
  refine c_start ?_
  refine c_seq ?_
  refine c_region ?_
  refine AOps.st 0 rfl rfl rfl (op_alloce (cs' := [_, _]) rfl tz_77 rfl rfl ?_); intro b0
  refine AOps.nil ?_
  refine go_code ?_
  refine c_seq ?_
  refine c_region ?_
  refine AOps.st 1 rfl rfl rfl (op_buildSlice_row (xs := [.const (.int .u64 0)]) el_34 rfl rfl rfl rfl rfl rfl (Nat.le_of_ble_eq_true rfl) ?_); intro r1
  refine AOps.st 2 rfl rfl rfl (op_buildSlice_row (xs := [.const (.bool false)]) el_75 rfl rfl rfl rfl rfl rfl (Nat.le_of_ble_eq_true rfl) ?_); intro r2
  refine AOps.st 3 rfl rfl rfl (op_build (ns := [0, 1]) (xs := [.tmp 1, .tmp 2]) rfl tz_77 rfl tfl_77 rfl rfl rfl rfl ?_)
  first | (refine AOps.st0 rfl rfl (op_store (cs' := [_, _]) (i := 0) rfl ts_77 rfl rfl rfl rfl rfl (Nat.le_of_ble_eq_true rfl) rfl ?_)) | (refine AOps.st0 rfl rfl (op_store (cs' := [_, _]) (i := 1) rfl ts_77 rfl rfl rfl rfl rfl (Nat.le_of_ble_eq_true rfl) rfl ?_)) | (refine AOps.st0 rfl rfl (op_store (cs' := [_, _]) (i := 2) rfl ts_77 rfl rfl rfl rfl rfl (Nat.le_of_ble_eq_true rfl) rfl ?_)) | (refine AOps.st0 rfl rfl (op_store (cs' := [_, _]) (i := 3) rfl ts_77 rfl rfl rfl rfl rfl (Nat.le_of_ble_eq_true rfl) rfl ?_)) | (refine AOps.st0 rfl rfl (op_store (cs' := [_, _]) (i := 4) rfl ts_77 rfl rfl rfl rfl rfl (Nat.le_of_ble_eq_true rfl) rfl ?_)) | (refine AOps.st0 rfl rfl (op_store (cs' := [_, _]) (i := 5) rfl ts_77 rfl rfl rfl rfl rfl (Nat.le_of_ble_eq_true rfl) rfl ?_)) | (refine AOps.st0 rfl rfl (op_store (cs' := [_, _]) (i := 6) rfl ts_77 rfl rfl rfl rfl rfl (Nat.le_of_ble_eq_true rfl) rfl ?_)) | (refine AOps.st0 rfl rfl (op_store (cs' := [_, _]) (i := 7) rfl ts_77 rfl rfl rfl rfl rfl (Nat.le_of_ble_eq_true rfl) rfl ?_)) | (refine AOps.st0 rfl rfl (op_store (cs' := [_, _]) (i := 8) rfl ts_77 rfl rfl rfl rfl rfl (Nat.le_of_ble_eq_true rfl) rfl ?_)) | (refine AOps.st0 rfl rfl (op_store (cs' := [_, _]) (i := 9) rfl ts_77 rfl rfl rfl rfl rfl (Nat.le_of_ble_eq_true rfl) rfl ?_))
  refine AOps.nil ?_
  refine go_code ?_
  refine c_ret ?_
  exact out_cell (i := 2) rfl rfl rfl ta_77 rfl (Le.refl _) (by first | exact MLe.none _ | exact MLe.refl _ | (repeat' (first | exact MLe.nil | exact MLe.refl _ | refine MLe.cons _ ?_ | refine MLe.drop _ ?_))) ⟨_, _, rfl, rfl⟩
set_option maxHeartbeats 4000000 in
set_option maxRecDepth 100000 in
theorem New_c (sz : Int) : ACall Try.prog 12 [.val (.int .i64 sz)] [] (fun v M' => (1 ≤ sz ∧ sz ≤ 16777216 ∧ ∃ b, v = .tup [.ptr b 0, .val (.int .i64 0)] ∧ HeapAt b sz [] M') ∨ (¬ (1 ≤ sz ∧ sz ≤ 16777216) ∧ v = .tup [.val (.pointer none), .val (.int .i64 2)])) := by
  refine ACall.enter Try.func12 rfl (by kernel_rfl) rfl (Nat.le_of_ble_eq_true rfl) ?_
  refine c_start ?_
  refine c_seq ?_
  refine c_region ?_
  refine AOps.st 2 rfl rfl rfl (op_assign rfl rfl ?_)
  refine AOps.st 3 rfl rfl rfl (op_assign rfl rfl ?_)
  refine AOps.nil ?_
  refine go_code ?_
  refine c_seq ?_
  refine c_seq ?_
  refine c_bool 9 (¬ (1 ≤ sz ∧ sz ≤ 16777216)) ?_ _ _ rfl ?_
  · skip
    refine AOps.st 4 rfl rfl rfl (op_move rfl rfl ?_)
    refine AOps.st 5 rfl rfl rfl (op_lss rfl rfl rfl ?_); intro c5 h5
    refine AOps.st 6 rfl rfl rfl (op_move rfl rfl ?_)
    rcases bool_split h5 with ⟨rfl, g5⟩ | ⟨rfl, g5⟩
    · skip
      refine AOps.gt 7 rfl rfl rfl rfl rfl (op_move rfl rfl ?_)
      refine AOps.gt 8 rfl rfl rfl rfl rfl (op_gtr rfl rfl rfl ?_); intro c8 h8
      refine AOps.st 9 rfl rfl rfl (op_pick rfl rfl rfl ?_)
      refine AOps.nil ?_
      refine BoolQ.mk rfl ?_ (by repeat' (first | exact SLe.wo _ _ | exact SLe.refl _ | refine SLe.fresh rfl ?_)) (by first | exact MLe.none _ | exact MLe.refl _ | (repeat' (first | exact MLe.nil | exact MLe.refl _ | refine MLe.cons _ ?_ | refine MLe.drop _ ?_)))
      first | (simp_all; done) | (simp_all; omega)
    · skip
      refine AOps.gf 7 rfl rfl rfl rfl rfl ?_
      refine AOps.gf 8 rfl rfl rfl rfl rfl ?_
      refine AOps.st 9 rfl rfl rfl (op_pick rfl rfl rfl ?_)
      refine AOps.nil ?_
      refine BoolQ.mk rfl ?_ (by repeat' (first | exact SLe.wo _ _ | exact SLe.refl _ | refine SLe.fresh rfl ?_)) (by first | exact MLe.none _ | exact MLe.refl _ | (repeat' (first | exact MLe.nil | exact MLe.refl _ | refine MLe.cons _ ?_ | refine MLe.drop _ ?_)))
      first | (simp_all; done) | (simp_all; omega)
  intro c9 h9
  refine go_code ?_
  rcases bool_split h9 with ⟨rfl, g9⟩ | ⟨rfl, g9⟩
  · refine c_cond_f rfl ?_
    refine c_skip ?_
    refine go_code ?_
    refine c_seq ?_
    refine c_region ?_
    refine AOps.st 10 rfl rfl rfl (op_move rfl rfl ?_)
    refine AOps.st 11 rfl rfl rfl (op_callat [] (xs := [])  rfl rfl rfl empty_c (by first | exact Les.refl _ | (repeat' (first | exact Les.refl _ | refine Les.cons ?_ ?_ | exact Le.refl _ | exact Le.own _ _ _ | exact Le.nil _ | refine Le.agg ?_))) ?_)
    rintro v1 M1 ⟨g1, g2, rfl, rfl⟩
    refine AOps.st 12 rfl rfl rfl (op_callat [] (xs := [])  rfl rfl rfl empty_c (by first | exact Les.refl _ | (repeat' (first | exact Les.refl _ | refine Les.cons ?_ ?_ | exact Le.refl _ | exact Le.own _ _ _ | exact Le.nil _ | refine Le.agg ?_))) ?_)
    rintro v2 M2 ⟨g3, g4, rfl, rfl⟩
    refine AOps.st 13 rfl rfl rfl (op_build_arr (ns := [0, 1]) (xs := [.tmp 11, .tmp 12]) rfl tz_79 rfl tu_79 ts_77 rfl rfl rfl rfl ?_)
    refine AOps.st 14 rfl rfl rfl (op_build (ns := [0, 1]) (xs := [.tmp 10, .tmp 13]) rfl tz_81 rfl tfl_81 rfl rfl rfl rfl ?_)
    refine AOps.st 15 rfl rfl rfl (op_boxe (cs' := [_, _, _, _, _, _]) rfl rfl rfl rfl ?_); intro b15
    refine AOps.st 2 rfl rfl rfl (op_assign rfl rfl ?_)
    refine AOps.st 3 rfl rfl rfl (op_assign rfl rfl ?_)
    refine AOps.nil ?_
    refine go_code ?_
    refine ACode.perm (pick_perm (is := [0, 3, 2]) rfl) ?_
    refine c_ret ?_
    exact out_tt (M' := [_, _, _]) rfl rfl rfl (Le.refl _) (.cons _ (.cons _ (.cons _ (MLe.none _)))) (.inl ⟨by omega, by omega, _, rfl, false, g1, 1, g2, 1, _, _, rfl⟩)
  · refine c_cond_t rfl ?_
    refine c_seq ?_
    refine c_region ?_
    refine AOps.st 2 rfl rfl rfl (op_assign rfl rfl ?_)
    refine AOps.st 3 rfl rfl rfl (op_assign rfl rfl ?_)
    refine AOps.nil ?_
    refine go_code ?_
    refine c_ret ?_
    exact out_tt rfl rfl rfl (Le.refl _) (MLe.refl _) (.inr ⟨g9, rfl⟩)
set_option maxHeartbeats 4000000 in
set_option maxRecDepth 100000 in
theorem is_c (b : Nat) (sz : Int) (cs : List AV) (h0 : cs[0]? = some (.val (.int .i64 sz))) (h : 0 < sz) : KCall Try.prog 43 [.ptr b 0] [.loc b cs] (.val (.bool true)) := by
  match cs, h0 with
  | c :: cs, h0 => 
    cases h0
    refine ACall.enter Try.func43 rfl (by kernel_rfl) rfl (Nat.le_of_ble_eq_true rfl) ?_
    refine c_start ?_
    refine c_seq ?_
    refine c_region ?_
    refine AOps.st 2 rfl rfl rfl (op_assign rfl rfl ?_)
    refine AOps.nil ?_
    refine go_code ?_
    refine c_seq ?_
    refine c_bool 2 (True) ?_ _ _ rfl ?_
    · skip
      refine AOps.st 3 rfl rfl rfl (op_move rfl rfl ?_)
      first | (refine AOps.st 4 rfl rfl rfl (op_pneqc rfl tu_25 rfl (.m _ _) ?_)) | (refine AOps.st 4 rfl rfl rfl (op_pneqc rfl tu_25 rfl (.c _) ?_))
      intro c4 h4
      refine AOps.st 5 rfl rfl rfl (op_move rfl rfl ?_)
      rcases bool_split h4 with ⟨rfl, g4⟩ | ⟨rfl, g4⟩
      · skip
        refine AOps.gf 6 rfl rfl rfl rfl rfl ?_
        refine AOps.gf 7 rfl rfl rfl rfl rfl ?_
        refine AOps.gf 8 rfl rfl rfl rfl rfl ?_
        refine AOps.gf 9 rfl rfl rfl rfl rfl ?_
        refine AOps.gf 10 rfl rfl rfl rfl rfl ?_
        refine AOps.st 11 rfl rfl rfl (op_pick rfl rfl rfl ?_)
        refine AOps.st 2 rfl rfl rfl (op_assign rfl rfl ?_)
        refine AOps.nil ?_
        refine BoolQ.mk rfl ?_ (by repeat' (first | exact SLe.wo _ _ | exact SLe.refl _ | refine SLe.fresh rfl ?_)) (by first | exact MLe.none _ | exact MLe.refl _ | (repeat' (first | exact MLe.nil | exact MLe.refl _ | refine MLe.cons _ ?_ | refine MLe.drop _ ?_)))
        first | (simp_all; done) | (simp_all; omega)
      · skip
        refine AOps.gt 6 rfl rfl rfl rfl rfl (op_move rfl rfl ?_)
        first | (refine AOps.gt 7 rfl rfl rfl rfl rfl (op_nilCheck_m rfl rfl ?_)) | (refine AOps.gt 7 rfl rfl rfl rfl rfl (op_nilCheck_c rfl rfl ?_)) | (refine AOps.gt 7 rfl rfl rfl rfl rfl (op_nilCheck_f rfl rfl ?_))
        first | (refine AOps.gt 8 rfl rfl rfl rfl rfl (op_fieldAddr_m rfl tf_81_0 rfl ?_)) | (refine AOps.gt 8 rfl rfl rfl rfl rfl (op_fieldAddr_c rfl tf_81_0 rfl rfl ?_))
        first | (refine AOps.gt 9 rfl rfl rfl rfl rfl (op_load_m1 (i := 0) rfl ta_3 rfl rfl rfl ?_)) | (refine AOps.gt 9 rfl rfl rfl rfl rfl (op_load_m1 (i := 1) rfl ta_3 rfl rfl rfl ?_)) | (refine AOps.gt 9 rfl rfl rfl rfl rfl (op_load_m1 (i := 2) rfl ta_3 rfl rfl rfl ?_)) | (refine AOps.gt 9 rfl rfl rfl rfl rfl (op_load_m1 (i := 3) rfl ta_3 rfl rfl rfl ?_)) | (refine AOps.gt 9 rfl rfl rfl rfl rfl (op_load_m1 (i := 4) rfl ta_3 rfl rfl rfl ?_)) | (refine AOps.gt 9 rfl rfl rfl rfl rfl (op_load_m1 (i := 5) rfl ta_3 rfl rfl rfl ?_)) | (refine AOps.gt 9 rfl rfl rfl rfl rfl (op_load_m1 (i := 6) rfl ta_3 rfl rfl rfl ?_)) | (refine AOps.gt 9 rfl rfl rfl rfl rfl (op_load_m1 (i := 7) rfl ta_3 rfl rfl rfl ?_)) | (refine AOps.gt 9 rfl rfl rfl rfl rfl (op_load_m1 (i := 8) rfl ta_3 rfl rfl rfl ?_)) | (refine AOps.gt 9 rfl rfl rfl rfl rfl (op_load_m1 (i := 9) rfl ta_3 rfl rfl rfl ?_)) | (refine AOps.gt 9 rfl rfl rfl rfl rfl (op_load_c1 rfl ta_3 rfl rfl ?_))
        refine AOps.gt 10 rfl rfl rfl rfl rfl (op_gtr rfl rfl rfl ?_); intro c10 h10
        refine AOps.st 11 rfl rfl rfl (op_pick rfl rfl rfl ?_)
        refine AOps.st 2 rfl rfl rfl (op_assign rfl rfl ?_)
        refine AOps.nil ?_
        refine BoolQ.mk rfl ?_ (by repeat' (first | exact SLe.wo _ _ | exact SLe.refl _ | refine SLe.fresh rfl ?_)) (by first | exact MLe.none _ | exact MLe.refl _ | (repeat' (first | exact MLe.nil | exact MLe.refl _ | refine MLe.cons _ ?_ | refine MLe.drop _ ?_)))
        first | (simp_all; done) | (simp_all; omega)
    intro c2 h2
    refine go_code ?_
    refine c_ret ?_
    exact out_tmp rfl rfl (Le.refl _) (by first | exact MLe.none _ | exact MLe.refl _ | (repeat' (first | exact MLe.nil | exact MLe.refl _ | refine MLe.cons _ ?_ | refine MLe.drop _ ?_))) ⟨by simp_all, rfl⟩
set_option maxHeartbeats 4000000 in
set_option maxRecDepth 100000 in
theorem Used_c (b : Nat) (sz : Int) (H : List HO) (M : Mem) (hM : HeapAt b sz H M) (h : 0 < sz) (hmax : used H ≤ 16777216) : KCall Try.prog 15 [.ptr b 0] M (.val (.int .i64 (used H))) := by
  obtain ⟨now, gw, cw, gb, cb, x, y, rfl⟩ := hM
  cases now
  all_goals
    simp only [spc]
    refine ACall.enter Try.func15 rfl (by kernel_rfl) rfl (Nat.le_of_ble_eq_true rfl) ?_
    refine c_start ?_
    refine c_seq ?_
    refine c_region ?_
    refine AOps.st 2 rfl rfl rfl (op_assign rfl rfl ?_)
    refine AOps.nil ?_
    refine go_code ?_
    refine c_seq ?_
    refine c_seq ?_
    refine c_region ?_
    refine AOps.st 3 rfl rfl rfl (op_move rfl rfl ?_)
    refine AOps.st 4 rfl rfl rfl (op_callk (xs := [.tmp 3]) [0] rfl rfl rfl (is_c b sz _ rfl h) (by first | exact Les.refl _ | (repeat' (first | exact Les.refl _ | refine Les.cons ?_ ?_ | exact Le.refl _ | exact Le.own _ _ _ | exact Le.nil _ | refine Le.agg ?_))) ?_)
    refine AOps.st 5 rfl rfl rfl (op_notc rfl rfl ?_); intro c5 h5
    try replace h5 := nott h5 h4
    refine AOps.nil ?_
    refine go_code ?_
    rcases bool_split h5 with ⟨rfl, g5⟩ | ⟨rfl, g5⟩
    · refine c_cond_f rfl ?_
      refine c_skip ?_
      refine go_code ?_
      refine c_seq ?_
      refine c_drawn tmix rfl ?_
      refine DOps.st 6 rfl rfl (op_move rfl rfl ⟨rfl, rfl⟩) ?_
      refine DOps.st 7 rfl rfl (op_move rfl rfl ⟨rfl, rfl⟩) ?_
      first | (refine DOps.st 8 rfl rfl (op_nilCheck_m rfl rfl ⟨rfl, rfl⟩) ?_) | (refine DOps.st 8 rfl rfl (op_nilCheck_c rfl rfl ⟨rfl, rfl⟩) ?_) | (refine DOps.st 8 rfl rfl (op_nilCheck_f rfl rfl ⟨rfl, rfl⟩) ?_)
      first | (refine DOps.st 9 rfl rfl (op_fieldAddr_m rfl tf_81_2 rfl ⟨rfl, rfl⟩) ?_) | (refine DOps.st 9 rfl rfl (op_fieldAddr_c rfl tf_81_2 rfl rfl ⟨rfl, rfl⟩) ?_)
      first | (refine DOps.st 10 rfl rfl (op_load_m1 (i := 0) rfl ta_3 rfl rfl rfl ⟨rfl, rfl⟩) ?_) | (refine DOps.st 10 rfl rfl (op_load_m1 (i := 1) rfl ta_3 rfl rfl rfl ⟨rfl, rfl⟩) ?_) | (refine DOps.st 10 rfl rfl (op_load_m1 (i := 2) rfl ta_3 rfl rfl rfl ⟨rfl, rfl⟩) ?_) | (refine DOps.st 10 rfl rfl (op_load_m1 (i := 3) rfl ta_3 rfl rfl rfl ⟨rfl, rfl⟩) ?_) | (refine DOps.st 10 rfl rfl (op_load_m1 (i := 4) rfl ta_3 rfl rfl rfl ⟨rfl, rfl⟩) ?_) | (refine DOps.st 10 rfl rfl (op_load_m1 (i := 5) rfl ta_3 rfl rfl rfl ⟨rfl, rfl⟩) ?_) | (refine DOps.st 10 rfl rfl (op_load_m1 (i := 6) rfl ta_3 rfl rfl rfl ⟨rfl, rfl⟩) ?_) | (refine DOps.st 10 rfl rfl (op_load_m1 (i := 7) rfl ta_3 rfl rfl rfl ⟨rfl, rfl⟩) ?_) | (refine DOps.st 10 rfl rfl (op_load_m1 (i := 8) rfl ta_3 rfl rfl rfl ⟨rfl, rfl⟩) ?_) | (refine DOps.st 10 rfl rfl (op_load_m1 (i := 9) rfl ta_3 rfl rfl rfl ⟨rfl, rfl⟩) ?_) | (refine DOps.st 10 rfl rfl (op_load_c1 rfl ta_3 rfl rfl ⟨rfl, rfl⟩) ?_)
      first | (refine DOps.st 11 rfl rfl (op_nilCheck_m rfl rfl ⟨rfl, rfl⟩) ?_) | (refine DOps.st 11 rfl rfl (op_nilCheck_c rfl rfl ⟨rfl, rfl⟩) ?_) | (refine DOps.st 11 rfl rfl (op_nilCheck_f rfl rfl ⟨rfl, rfl⟩) ?_)
      first | (refine DOps.st 12 rfl rfl (op_fieldAddr_m rfl tf_81_1 rfl ⟨rfl, rfl⟩) ?_) | (refine DOps.st 12 rfl rfl (op_fieldAddr_c rfl tf_81_1 rfl rfl ⟨rfl, rfl⟩) ?_)
      first | (refine DOps.st 13 rfl rfl (op_index_arrm (k := 0) rfl tu_79 ts_77 rfl rfl rfl (by decide) ⟨rfl, rfl⟩) ?_) | (refine DOps.st 13 rfl rfl (op_index_arrm (k := 1) rfl tu_79 ts_77 rfl rfl rfl (by decide) ⟨rfl, rfl⟩) ?_)
      first | (refine DOps.st 14 rfl rfl (op_fieldAddr_m rfl tf_77_0 rfl ⟨rfl, rfl⟩) ?_) | (refine DOps.st 14 rfl rfl (op_fieldAddr_c rfl tf_77_0 rfl rfl ⟨rfl, rfl⟩) ?_)
      first | (refine DOps.st 15 rfl rfl (op_load_m1 (i := 0) rfl ta_34 rfl rfl rfl ⟨rfl, rfl⟩) ?_) | (refine DOps.st 15 rfl rfl (op_load_m1 (i := 1) rfl ta_34 rfl rfl rfl ⟨rfl, rfl⟩) ?_) | (refine DOps.st 15 rfl rfl (op_load_m1 (i := 2) rfl ta_34 rfl rfl rfl ⟨rfl, rfl⟩) ?_) | (refine DOps.st 15 rfl rfl (op_load_m1 (i := 3) rfl ta_34 rfl rfl rfl ⟨rfl, rfl⟩) ?_) | (refine DOps.st 15 rfl rfl (op_load_m1 (i := 4) rfl ta_34 rfl rfl rfl ⟨rfl, rfl⟩) ?_) | (refine DOps.st 15 rfl rfl (op_load_m1 (i := 5) rfl ta_34 rfl rfl rfl ⟨rfl, rfl⟩) ?_) | (refine DOps.st 15 rfl rfl (op_load_m1 (i := 6) rfl ta_34 rfl rfl rfl ⟨rfl, rfl⟩) ?_) | (refine DOps.st 15 rfl rfl (op_load_m1 (i := 7) rfl ta_34 rfl rfl rfl ⟨rfl, rfl⟩) ?_) | (refine DOps.st 15 rfl rfl (op_load_m1 (i := 8) rfl ta_34 rfl rfl rfl ⟨rfl, rfl⟩) ?_) | (refine DOps.st 15 rfl rfl (op_load_m1 (i := 9) rfl ta_34 rfl rfl rfl ⟨rfl, rfl⟩) ?_) | (refine DOps.st 15 rfl rfl (op_load_c1 rfl ta_34 rfl rfl ⟨rfl, rfl⟩) ?_)
      refine DOps.st 16 rfl rfl (op_len_val rfl tu_34 rfl ⟨rfl, rfl⟩) ?_
      first | (refine DOps.st 17 rfl rfl (op_sub rfl rfl rfl (IntWalk.i64_in _ (by omega)) ⟨rfl, rfl⟩) ?_) | (refine DOps.st 17 rfl rfl (op_sub rfl rfl rfl rfl ⟨rfl, rfl⟩) ?_)
      refine DOps.st 2 rfl rfl (op_assign rfl rfl ⟨rfl, rfl⟩) ?_
      show AGo _ _ _ _ _ _ _
      refine go_code ?_
      refine c_ret ?_
      exact out_tmp rfl rfl (Le.ieq (by omega)) (by first | exact MLe.none _ | exact MLe.refl _ | (repeat' (first | exact MLe.nil | exact MLe.refl _ | refine MLe.cons _ ?_ | refine MLe.drop _ ?_))) ⟨rfl, rfl⟩
    · refine c_cond_t rfl ?_
      refine c_seq ?_
      exact absurd h5 (by simp)
set_option maxHeartbeats 4000000 in
set_option maxRecDepth 100000 in
theorem Room_c (b : Nat) (sz n : Int) (H : List HO) (M : Mem) (hM : HeapAt b sz H M) (h : 0 < sz) (hs : sz ≤ 16777216) (hmax : used H ≤ 16777216) : KBCall Try.prog 25 [.ptr b 0, .val (.int .i64 n)] M (0 ≤ n ∧ n + used H ≤ sz) := by
  have hU := Used_c b sz H M hM h hmax
  obtain ⟨now, gw, cw, gb, cb, x, y, rfl⟩ := hM
  cases now
  all_goals
    simp only [spc] at hU ⊢
    refine ACall.enter Try.func25 rfl (by kernel_rfl) rfl (Nat.le_of_ble_eq_true rfl) ?_
    refine c_start ?_
    refine c_seq ?_
    refine c_region ?_
    refine AOps.st 4 rfl rfl rfl (op_assign rfl rfl ?_)
    refine AOps.nil ?_
    refine go_code ?_
    refine c_seq ?_
    refine c_boold 4 (0 ≤ n ∧ n + used H ≤ sz) tmix rfl ?_ _ _ rfl ?_
    · skip
      refine DOps.st 5 rfl rfl (op_move rfl rfl ⟨rfl, rfl⟩) ?_
      refine DOps.st 6 rfl rfl (op_callk (xs := [.tmp 5]) [0] rfl rfl rfl (is_c b sz _ rfl h) (by first | exact Les.refl _ | (repeat' (first | exact Les.refl _ | refine Les.cons ?_ ?_ | exact Le.refl _ | exact Le.own _ _ _ | exact Le.nil _ | refine Le.agg ?_))) ⟨rfl, rfl⟩) ?_
      refine DOps.st 7 rfl rfl (op_move rfl rfl ⟨rfl, rfl⟩) ?_
      refine DOps.gt 8 rfl rfl rfl rfl (op_move rfl rfl ⟨rfl, rfl⟩) ?_
      refine DOps.gtc 9 rfl rfl rfl rfl (fun _ q => op_geq rfl rfl rfl q) ?_; intro c9 h9
      refine DOps.st 10 rfl rfl (op_pick rfl rfl rfl ⟨rfl, rfl⟩) ?_
      refine DOps.st 11 rfl rfl (op_move rfl rfl ⟨rfl, rfl⟩) ?_
      rcases bool_split h9 with ⟨rfl, g9⟩ | ⟨rfl, g9⟩
      · skip
        refine DOps.gf 12 rfl rfl rfl rfl ?_
        refine DOps.gf 13 rfl rfl rfl rfl ?_
        refine DOps.gf 14 rfl rfl rfl rfl ?_
        refine DOps.gf 15 rfl rfl rfl rfl ?_
        refine DOps.gf 16 rfl rfl rfl rfl ?_
        refine DOps.gf 17 rfl rfl rfl rfl ?_
        refine DOps.gf 18 rfl rfl rfl rfl ?_
        refine DOps.gf 19 rfl rfl rfl rfl ?_
        refine DOps.gf 20 rfl rfl rfl rfl ?_
        refine DOps.st 21 rfl rfl (op_pick rfl rfl rfl ⟨rfl, rfl⟩) ?_
        refine DOps.st 4 rfl rfl (op_assign rfl rfl ⟨rfl, rfl⟩) ?_
        show BoolQ _ _ _ _ _ _
        refine BoolQ.mk rfl ?_ (by repeat' (first | exact SLe.wo _ _ | exact SLe.refl _ | refine SLe.fresh rfl ?_)) (by first | exact MLe.none _ | exact MLe.refl _ | (repeat' (first | exact MLe.nil | exact MLe.refl _ | refine MLe.cons _ ?_ | refine MLe.drop _ ?_)))
        first | (simp_all; done) | (simp_all; omega)
      · skip
        refine DOps.gt 12 rfl rfl rfl rfl (op_move rfl rfl ⟨rfl, rfl⟩) ?_
        refine DOps.gt 13 rfl rfl rfl rfl (op_move rfl rfl ⟨rfl, rfl⟩) ?_
        first | (refine DOps.gt 14 rfl rfl rfl rfl (op_nilCheck_m rfl rfl ⟨rfl, rfl⟩) ?_) | (refine DOps.gt 14 rfl rfl rfl rfl (op_nilCheck_c rfl rfl ⟨rfl, rfl⟩) ?_) | (refine DOps.gt 14 rfl rfl rfl rfl (op_nilCheck_f rfl rfl ⟨rfl, rfl⟩) ?_)
        first | (refine DOps.gt 15 rfl rfl rfl rfl (op_fieldAddr_m rfl tf_81_0 rfl ⟨rfl, rfl⟩) ?_) | (refine DOps.gt 15 rfl rfl rfl rfl (op_fieldAddr_c rfl tf_81_0 rfl rfl ⟨rfl, rfl⟩) ?_)
        first | (refine DOps.gt 16 rfl rfl rfl rfl (op_load_m1 (i := 0) rfl ta_3 rfl rfl rfl ⟨rfl, rfl⟩) ?_) | (refine DOps.gt 16 rfl rfl rfl rfl (op_load_m1 (i := 1) rfl ta_3 rfl rfl rfl ⟨rfl, rfl⟩) ?_) | (refine DOps.gt 16 rfl rfl rfl rfl (op_load_m1 (i := 2) rfl ta_3 rfl rfl rfl ⟨rfl, rfl⟩) ?_) | (refine DOps.gt 16 rfl rfl rfl rfl (op_load_m1 (i := 3) rfl ta_3 rfl rfl rfl ⟨rfl, rfl⟩) ?_) | (refine DOps.gt 16 rfl rfl rfl rfl (op_load_m1 (i := 4) rfl ta_3 rfl rfl rfl ⟨rfl, rfl⟩) ?_) | (refine DOps.gt 16 rfl rfl rfl rfl (op_load_m1 (i := 5) rfl ta_3 rfl rfl rfl ⟨rfl, rfl⟩) ?_) | (refine DOps.gt 16 rfl rfl rfl rfl (op_load_m1 (i := 6) rfl ta_3 rfl rfl rfl ⟨rfl, rfl⟩) ?_) | (refine DOps.gt 16 rfl rfl rfl rfl (op_load_m1 (i := 7) rfl ta_3 rfl rfl rfl ⟨rfl, rfl⟩) ?_) | (refine DOps.gt 16 rfl rfl rfl rfl (op_load_m1 (i := 8) rfl ta_3 rfl rfl rfl ⟨rfl, rfl⟩) ?_) | (refine DOps.gt 16 rfl rfl rfl rfl (op_load_m1 (i := 9) rfl ta_3 rfl rfl rfl ⟨rfl, rfl⟩) ?_) | (refine DOps.gt 16 rfl rfl rfl rfl (op_load_c1 rfl ta_3 rfl rfl ⟨rfl, rfl⟩) ?_)
        refine DOps.gt 17 rfl rfl rfl rfl (op_move rfl rfl ⟨rfl, rfl⟩) ?_
        refine DOps.gt 18 rfl rfl rfl rfl (op_callk (xs := [.tmp 17]) [0, 0, 0] rfl rfl rfl (hU) (by first | exact Les.refl _ | (repeat' (first | exact Les.refl _ | refine Les.cons ?_ ?_ | exact Le.refl _ | exact Le.own _ _ _ | exact Le.nil _ | refine Le.agg ?_))) ⟨rfl, rfl⟩) ?_
        first | (refine DOps.gt 19 rfl rfl rfl rfl (op_sub rfl rfl rfl (IntWalk.i64_in _ (by omega)) ⟨rfl, rfl⟩) ?_) | (refine DOps.gt 19 rfl rfl rfl rfl (op_sub rfl rfl rfl rfl ⟨rfl, rfl⟩) ?_)
        refine DOps.gtc 20 rfl rfl rfl rfl (fun _ q => op_leq rfl rfl rfl q) ?_; intro c20 h20
        refine DOps.st 21 rfl rfl (op_pick rfl rfl rfl ⟨rfl, rfl⟩) ?_
        refine DOps.st 4 rfl rfl (op_assign rfl rfl ⟨rfl, rfl⟩) ?_
        show BoolQ _ _ _ _ _ _
        refine BoolQ.mk rfl ?_ (by repeat' (first | exact SLe.wo _ _ | exact SLe.refl _ | refine SLe.fresh rfl ?_)) (by first | exact MLe.none _ | exact MLe.refl _ | (repeat' (first | exact MLe.nil | exact MLe.refl _ | refine MLe.cons _ ?_ | refine MLe.drop _ ?_)))
        first | (simp_all; done) | (simp_all; omega)
    intro c4 h4
    refine go_code ?_
    refine c_ret ?_
    exact out_tmp rfl rfl (Le.refl _) (by first | exact MLe.none _ | exact MLe.refl _ | (repeat' (first | exact MLe.nil | exact MLe.refl _ | refine MLe.cons _ ?_ | refine MLe.drop _ ?_))) ⟨⟨_, h4, rfl⟩, rfl⟩
/-- does an object begin at the address of a word? -/
def atB (B : List Bool) (w : Int) : Bool := atOk w && decide (1 ≤ atV w) && decide (atV w < B.length) && (B.getD (atV w).toNat false)
set_option maxHeartbeats 4000000 in
set_option maxRecDepth 100000 in
theorem at_c (now : Bool) (b : Nat) (s n x y : AV) (gw cw gb cb k : Nat) (W : List Int) (B : List Bool) (w : Int) (h0 : 0 ≤ w) (h1 : w ≤ 18446744073709551615) (hW : W.length = k) (hB : B.length = k) : KCall Try.prog 44 [.ptr b (if now then 3 else 1), .val (.int .u64 w)] [.loc b (spc now s n (.val (rowv gw k cw)) (.val (rowv gb k cb)) x y), .row 42 1 (rowv gw k cw) (W.map iv), .row 4 1 (rowv gb k cb) (B.map bv)] (.tup [.val (.int .i64 (if atB B w then atV w else 0)), .val (.bool (atB B w))]) := by
  have hp := At_p w h0 h1
  obtain ⟨a, ha⟩ : ∃ a : Nat, atV w = (a : Int) := ⟨(atV w).toNat, by have : 0 ≤ atV w := (by unfold atV; split <;> omega); omega⟩
  have ha2 : a ≤ 4294967296 := by have : atV w ≤ 4294967296 := (by unfold atV atOk; split <;> simp_all <;> omega); omega
  have hb : a < k → (B.map bv)[a]? = some [.val (.bool (B.getD a false))] := fun q => by
    rw [List.getElem?_map, List.getElem?_eq_getElem (by omega), List.getD_eq_getElem?_getD, List.getElem?_eq_getElem (by omega)]; rfl
  have hat : atB B w = true ↔ atOk w = true ∧ 1 ≤ a ∧ a < k ∧ B.getD a false = true := by
    simp only [atB, ha, hB, Bool.and_eq_true, decide_eq_true_eq]
    rw [show ((a : Int).toNat) = a from rfl]
    constructor
    · rintro ⟨⟨⟨q1, q2⟩, q3⟩, q4⟩; exact ⟨q1, by omega, by omega, q4⟩
    · rintro ⟨q1, q2, q3, q4⟩; exact ⟨⟨⟨q1, by omega⟩, by omega⟩, q4⟩
  have hlW : (W.map iv).length = k := by simpa using hW
  have hlB : (B.map bv).length = k := by simpa using hB
  rw [ha] at hp ⊢
  generalize B.getD a false = bb at *
  generalize W.map iv = EW at *
  generalize B.map bv = EB at *
  generalize atOk w = ao at *
  generalize atB B w = r at *
  cases now
  all_goals
    simp only [spc, Bool.false_eq_true, if_false, if_true]
    refine ACall.enter Try.func44 rfl (by kernel_rfl) rfl (Nat.le_of_ble_eq_true rfl) ?_
    refine c_start ?_
    refine c_seq ?_
    refine c_region ?_
    refine AOps.st 4 rfl rfl rfl (op_assign rfl rfl ?_)
    refine AOps.st 5 rfl rfl rfl (op_assign rfl rfl ?_)
    refine AOps.nil ?_
    refine go_code ?_
    refine c_seq ?_
    refine c_region ?_
    refine AOps.st 9 rfl rfl rfl (op_move rfl rfl ?_)
    refine AOps.st 10 rfl rfl rfl (op_callp (xs := [.tmp 9]) rfl rfl (hp) (by first | exact Les.refl _ | (repeat' (first | exact Les.refl _ | refine Les.cons ?_ ?_ | exact Le.refl _ | exact Le.own _ _ _ | exact Le.nil _ | refine Le.agg ?_))) ?_)
    refine AOps.st 8 rfl rfl rfl (op_move rfl rfl ?_)
    refine AOps.st 11 rfl rfl rfl (op_extract rfl rfl rfl ?_)
    refine AOps.st 12 rfl rfl rfl (op_extract rfl rfl rfl ?_)
    refine AOps.st 6 rfl rfl rfl (op_assign rfl rfl ?_)
    refine AOps.st 7 rfl rfl rfl (op_assign rfl rfl ?_)
    refine AOps.nil ?_
    refine go_code ?_
    refine c_seq ?_
    refine c_seq ?_
    refine c_bool 37 (¬ (r = true)) ?_ _ _ rfl ?_
    · skip
      refine AOps.st 13 rfl rfl rfl (op_move rfl rfl ?_)
      refine AOps.st 14 rfl rfl rfl (op_notc rfl rfl ?_); intro c14 h14
      try replace h14 := nott h14 h12
      refine AOps.st 15 rfl rfl rfl (op_move rfl rfl ?_)
      rcases bool_split h14 with ⟨rfl, g14⟩ | ⟨rfl, g14⟩
      · skip
        refine AOps.gt 16 rfl rfl rfl rfl rfl (op_move rfl rfl ?_)
        refine AOps.gt 17 rfl rfl rfl rfl rfl (op_lss rfl rfl rfl ?_); intro c17 h17
        refine AOps.st 18 rfl rfl rfl (op_pick rfl rfl rfl ?_)
        refine AOps.st 19 rfl rfl rfl (op_move rfl rfl ?_)
        rcases bool_split h17 with ⟨rfl, g17⟩ | ⟨rfl, g17⟩
        · skip
          refine AOps.gt 20 rfl rfl rfl rfl rfl (op_move rfl rfl ?_)
          refine AOps.gt 21 rfl rfl rfl rfl rfl (op_move rfl rfl ?_)
          first | (refine AOps.gt 22 rfl rfl rfl rfl rfl (op_nilCheck_m rfl rfl ?_)) | (refine AOps.gt 22 rfl rfl rfl rfl rfl (op_nilCheck_c rfl rfl ?_)) | (refine AOps.gt 22 rfl rfl rfl rfl rfl (op_nilCheck_f rfl rfl ?_))
          first | (refine AOps.gt 23 rfl rfl rfl rfl rfl (op_fieldAddr_m rfl tf_77_0 rfl ?_)) | (refine AOps.gt 23 rfl rfl rfl rfl rfl (op_fieldAddr_c rfl tf_77_0 rfl rfl ?_))
          first | (refine AOps.gt 24 rfl rfl rfl rfl rfl (op_load_m1 (i := 0) rfl ta_34 rfl rfl rfl ?_)) | (refine AOps.gt 24 rfl rfl rfl rfl rfl (op_load_m1 (i := 1) rfl ta_34 rfl rfl rfl ?_)) | (refine AOps.gt 24 rfl rfl rfl rfl rfl (op_load_m1 (i := 2) rfl ta_34 rfl rfl rfl ?_)) | (refine AOps.gt 24 rfl rfl rfl rfl rfl (op_load_m1 (i := 3) rfl ta_34 rfl rfl rfl ?_)) | (refine AOps.gt 24 rfl rfl rfl rfl rfl (op_load_m1 (i := 4) rfl ta_34 rfl rfl rfl ?_)) | (refine AOps.gt 24 rfl rfl rfl rfl rfl (op_load_m1 (i := 5) rfl ta_34 rfl rfl rfl ?_)) | (refine AOps.gt 24 rfl rfl rfl rfl rfl (op_load_m1 (i := 6) rfl ta_34 rfl rfl rfl ?_)) | (refine AOps.gt 24 rfl rfl rfl rfl rfl (op_load_m1 (i := 7) rfl ta_34 rfl rfl rfl ?_)) | (refine AOps.gt 24 rfl rfl rfl rfl rfl (op_load_m1 (i := 8) rfl ta_34 rfl rfl rfl ?_)) | (refine AOps.gt 24 rfl rfl rfl rfl rfl (op_load_m1 (i := 9) rfl ta_34 rfl rfl rfl ?_)) | (refine AOps.gt 24 rfl rfl rfl rfl rfl (op_load_c1 rfl ta_34 rfl rfl ?_))
          refine AOps.gt 25 rfl rfl rfl rfl rfl (op_len_val rfl tu_34 rfl ?_)
          refine AOps.gt 26 rfl rfl rfl rfl rfl (op_geq rfl rfl rfl ?_); intro c26 h26
          refine AOps.st 27 rfl rfl rfl (op_pick rfl rfl rfl ?_)
          refine AOps.st 28 rfl rfl rfl (op_move rfl rfl ?_)
          rcases bool_split h26 with ⟨rfl, g26⟩ | ⟨rfl, g26⟩
          · skip
            refine AOps.gt 29 rfl rfl rfl rfl rfl (op_move rfl rfl ?_)
            first | (refine AOps.gt 30 rfl rfl rfl rfl rfl (op_nilCheck_m rfl rfl ?_)) | (refine AOps.gt 30 rfl rfl rfl rfl rfl (op_nilCheck_c rfl rfl ?_)) | (refine AOps.gt 30 rfl rfl rfl rfl rfl (op_nilCheck_f rfl rfl ?_))
            first | (refine AOps.gt 31 rfl rfl rfl rfl rfl (op_fieldAddr_m rfl tf_77_1 rfl ?_)) | (refine AOps.gt 31 rfl rfl rfl rfl rfl (op_fieldAddr_c rfl tf_77_1 rfl rfl ?_))
            first | (refine AOps.gt 32 rfl rfl rfl rfl rfl (op_load_m1 (i := 0) rfl ta_75 rfl rfl rfl ?_)) | (refine AOps.gt 32 rfl rfl rfl rfl rfl (op_load_m1 (i := 1) rfl ta_75 rfl rfl rfl ?_)) | (refine AOps.gt 32 rfl rfl rfl rfl rfl (op_load_m1 (i := 2) rfl ta_75 rfl rfl rfl ?_)) | (refine AOps.gt 32 rfl rfl rfl rfl rfl (op_load_m1 (i := 3) rfl ta_75 rfl rfl rfl ?_)) | (refine AOps.gt 32 rfl rfl rfl rfl rfl (op_load_m1 (i := 4) rfl ta_75 rfl rfl rfl ?_)) | (refine AOps.gt 32 rfl rfl rfl rfl rfl (op_load_m1 (i := 5) rfl ta_75 rfl rfl rfl ?_)) | (refine AOps.gt 32 rfl rfl rfl rfl rfl (op_load_m1 (i := 6) rfl ta_75 rfl rfl rfl ?_)) | (refine AOps.gt 32 rfl rfl rfl rfl rfl (op_load_m1 (i := 7) rfl ta_75 rfl rfl rfl ?_)) | (refine AOps.gt 32 rfl rfl rfl rfl rfl (op_load_m1 (i := 8) rfl ta_75 rfl rfl rfl ?_)) | (refine AOps.gt 32 rfl rfl rfl rfl rfl (op_load_m1 (i := 9) rfl ta_75 rfl rfl rfl ?_)) | (refine AOps.gt 32 rfl rfl rfl rfl rfl (op_load_c1 rfl ta_75 rfl rfl ?_))
            refine AOps.gt 33 rfl rfl rfl rfl rfl (op_move rfl rfl ?_)
            refine AOps.gt 34 rfl rfl rfl rfl rfl (op_index_row (i := 2) (k := a) rfl te_75 rfl rfl rfl (by first | rfl | omega) (by omega) ?_)
            refine AOps.gt 35 rfl rfl rfl rfl rfl (op_load_row1 (i := 2) (k := a) (f := 0) rfl ta_4 rfl rfl rfl (hb (by omega)) rfl ?_)
            refine AOps.gt 36 rfl rfl rfl rfl rfl (op_notc rfl rfl ?_); intro c36 h36
            try replace h36 := nott h36 h35
            refine AOps.st 37 rfl rfl rfl (op_pick rfl rfl rfl ?_)
            refine AOps.nil ?_
            refine BoolQ.mk rfl ?_ (by repeat' (first | exact SLe.wo _ _ | exact SLe.refl _ | refine SLe.fresh rfl ?_)) (by first | exact MLe.none _ | exact MLe.refl _ | (repeat' (first | exact MLe.nil | exact MLe.refl _ | refine MLe.cons _ ?_ | refine MLe.drop _ ?_)))
            first | (simp_all; done) | (simp_all; omega)
          · skip
            refine AOps.gf 29 rfl rfl rfl rfl rfl ?_
            refine AOps.gf 30 rfl rfl rfl rfl rfl ?_
            refine AOps.gf 31 rfl rfl rfl rfl rfl ?_
            refine AOps.gf 32 rfl rfl rfl rfl rfl ?_
            refine AOps.gf 33 rfl rfl rfl rfl rfl ?_
            refine AOps.gf 34 rfl rfl rfl rfl rfl ?_
            refine AOps.gf 35 rfl rfl rfl rfl rfl ?_
            refine AOps.gf 36 rfl rfl rfl rfl rfl ?_
            refine AOps.st 37 rfl rfl rfl (op_pick rfl rfl rfl ?_)
            refine AOps.nil ?_
            refine BoolQ.mk rfl ?_ (by repeat' (first | exact SLe.wo _ _ | exact SLe.refl _ | refine SLe.fresh rfl ?_)) (by first | exact MLe.none _ | exact MLe.refl _ | (repeat' (first | exact MLe.nil | exact MLe.refl _ | refine MLe.cons _ ?_ | refine MLe.drop _ ?_)))
            first | (simp_all; done) | (simp_all; omega)
        · skip
          refine AOps.gf 20 rfl rfl rfl rfl rfl ?_
          refine AOps.gf 21 rfl rfl rfl rfl rfl ?_
          refine AOps.gf 22 rfl rfl rfl rfl rfl ?_
          refine AOps.gf 23 rfl rfl rfl rfl rfl ?_
          refine AOps.gf 24 rfl rfl rfl rfl rfl ?_
          refine AOps.gf 25 rfl rfl rfl rfl rfl ?_
          refine AOps.gf 26 rfl rfl rfl rfl rfl ?_
          refine AOps.st 27 rfl rfl rfl (op_pick rfl rfl rfl ?_)
          refine AOps.st 28 rfl rfl rfl (op_move rfl rfl ?_)
          refine AOps.gf 29 rfl rfl rfl rfl rfl ?_
          refine AOps.gf 30 rfl rfl rfl rfl rfl ?_
          refine AOps.gf 31 rfl rfl rfl rfl rfl ?_
          refine AOps.gf 32 rfl rfl rfl rfl rfl ?_
          refine AOps.gf 33 rfl rfl rfl rfl rfl ?_
          refine AOps.gf 34 rfl rfl rfl rfl rfl ?_
          refine AOps.gf 35 rfl rfl rfl rfl rfl ?_
          refine AOps.gf 36 rfl rfl rfl rfl rfl ?_
          refine AOps.st 37 rfl rfl rfl (op_pick rfl rfl rfl ?_)
          refine AOps.nil ?_
          refine BoolQ.mk rfl ?_ (by repeat' (first | exact SLe.wo _ _ | exact SLe.refl _ | refine SLe.fresh rfl ?_)) (by first | exact MLe.none _ | exact MLe.refl _ | (repeat' (first | exact MLe.nil | exact MLe.refl _ | refine MLe.cons _ ?_ | refine MLe.drop _ ?_)))
          first | (simp_all; done) | (simp_all; omega)
      · skip
        refine AOps.gf 16 rfl rfl rfl rfl rfl ?_
        refine AOps.gf 17 rfl rfl rfl rfl rfl ?_
        refine AOps.st 18 rfl rfl rfl (op_pick rfl rfl rfl ?_)
        refine AOps.st 19 rfl rfl rfl (op_move rfl rfl ?_)
        refine AOps.gf 20 rfl rfl rfl rfl rfl ?_
        refine AOps.gf 21 rfl rfl rfl rfl rfl ?_
        refine AOps.gf 22 rfl rfl rfl rfl rfl ?_
        refine AOps.gf 23 rfl rfl rfl rfl rfl ?_
        refine AOps.gf 24 rfl rfl rfl rfl rfl ?_
        refine AOps.gf 25 rfl rfl rfl rfl rfl ?_
        refine AOps.gf 26 rfl rfl rfl rfl rfl ?_
        refine AOps.st 27 rfl rfl rfl (op_pick rfl rfl rfl ?_)
        refine AOps.st 28 rfl rfl rfl (op_move rfl rfl ?_)
        refine AOps.gf 29 rfl rfl rfl rfl rfl ?_
        refine AOps.gf 30 rfl rfl rfl rfl rfl ?_
        refine AOps.gf 31 rfl rfl rfl rfl rfl ?_
        refine AOps.gf 32 rfl rfl rfl rfl rfl ?_
        refine AOps.gf 33 rfl rfl rfl rfl rfl ?_
        refine AOps.gf 34 rfl rfl rfl rfl rfl ?_
        refine AOps.gf 35 rfl rfl rfl rfl rfl ?_
        refine AOps.gf 36 rfl rfl rfl rfl rfl ?_
        refine AOps.st 37 rfl rfl rfl (op_pick rfl rfl rfl ?_)
        refine AOps.nil ?_
        refine BoolQ.mk rfl ?_ (by repeat' (first | exact SLe.wo _ _ | exact SLe.refl _ | refine SLe.fresh rfl ?_)) (by first | exact MLe.none _ | exact MLe.refl _ | (repeat' (first | exact MLe.nil | exact MLe.refl _ | refine MLe.cons _ ?_ | refine MLe.drop _ ?_)))
        first | (simp_all; done) | (simp_all; omega)
    intro c37 h37
    refine go_code ?_
    rcases bool_split h37 with ⟨rfl, g37⟩ | ⟨rfl, g37⟩
    · refine c_cond_f rfl ?_
      refine c_skip ?_
      refine go_code ?_
      refine c_seq ?_
      refine c_region ?_
      refine AOps.st 38 rfl rfl rfl (op_move rfl rfl ?_)
      refine AOps.st 4 rfl rfl rfl (op_assign rfl rfl ?_)
      refine AOps.st 5 rfl rfl rfl (op_assign rfl rfl ?_)
      refine AOps.nil ?_
      refine go_code ?_
      refine c_ret ?_
      exact out_tt rfl rfl rfl (Le.refl _) (by first | exact MLe.none _ | exact MLe.refl _ | (repeat' (first | exact MLe.nil | exact MLe.refl _ | refine MLe.cons _ ?_ | refine MLe.drop _ ?_))) ⟨by simp_all, rfl⟩
    · refine c_cond_t rfl ?_
      refine c_seq ?_
      refine c_region ?_
      refine AOps.st 4 rfl rfl rfl (op_assign rfl rfl ?_)
      refine AOps.st 5 rfl rfl rfl (op_assign rfl rfl ?_)
      refine AOps.nil ?_
      refine go_code ?_
      refine c_ret ?_
      exact out_tt rfl rfl rfl ((by repeat' (first | exact Le.refl _ | exact Le.own _ _ _ | exact Le.nil _ | refine Le.agg ?_ | refine Le.tup ?_ | exact Les.refl _ | refine Les.cons ?_ ?_))) (by first | exact MLe.none _ | exact MLe.refl _ | (repeat' (first | exact MLe.nil | exact MLe.refl _ | refine MLe.cons _ ?_ | refine MLe.drop _ ?_))) ⟨by simp_all, rfl⟩
end Go.Proofs.Ytecpnlhjjmcllaa
namespace Go.Proofs.Ytecpnlhjjmcllaa
open Go.RowKit
theorem at_some {H : List HO} {w : Int} {o : HO} (hu : used H ≤ 16777216) (h : objOf H w = some o) : ∃ a : Nat, atV w = (a : Int) ∧ atB (hb H) w = true ∧ 1 ≤ a ∧ a + o.parts.length < used H + 1 ∧ (hw H)[a]? = some o.head ∧ (∀ i, i < o.parts.length → (hw H)[a + 1 + i]? = o.parts[i]?) := by
  obtain ⟨a, h1, h2, h3, h4, h5, h6, h7⟩ := obj_at h
  have hok : atOk w = true := by unfold atOk; simp; omega
  have hv : atV w = (a : Int) := by unfold atV; rw [if_pos hok]; omega
  refine ⟨a, hv, ?_, h1, h3, h5, h6⟩
  unfold atB
  rw [hok, hv, hb_len, List.getD_eq_getElem?_getD, show ((a : Int).toNat) = a from rfl, h4]
  simp; omega
theorem at_none {H : List HO} {w : Int} (h : objOf H w = none) : atB (hb H) w = false := by
  cases q : atB (hb H) w with
  | false => rfl
  | true =>
    unfold atB at q
    simp only [Bool.and_eq_true, decide_eq_true_eq] at q
    obtain ⟨⟨⟨q1, q2⟩, q3⟩, q4⟩ := q
    have hv : atV w = w / 2 := by unfold atV; rw [if_pos q1]
    have he : w % 2 = 0 := by unfold atOk at q1; simp at q1; omega
    obtain ⟨a, ha⟩ : ∃ a : Nat, atV w = (a : Int) := ⟨(atV w).toNat, by omega⟩
    rw [ha] at q2 q3 q4
    rw [List.getD_eq_getElem?_getD, show ((a : Int).toNat) = a from rfl] at q4
    have h4 : (hb H)[a]? = some true := by
      cases z : (hb H)[a]? with
      | none => rw [z] at q4; cases q4
      | some y => rw [z] at q4; simp at q4; rw [q4]
    obtain ⟨o, ho⟩ := obj_begin (by omega) h4
    rw [show (2 * (a : Int)) = w by omega, h] at ho
    cases ho
theorem HO.open_ {o : HO} (h : o.ok) : openOk o.head = true ∧ openK o.head = o.kind ∧ openT o.head = o.tag ∧ openS o.head = o.parts.length := back_head _ _ _ h.1
def lookV (H : List HO) (w : Int) : AV := match objOf H w with
  | some o => .tup [.val (.int .i64 o.kind), .val (.int .i64 o.tag), .val (.int .i64 o.parts.length), .val (.bool true)]
  | none => .tup [.val (.int .i64 0), .val (.int .i64 0), .val (.int .i64 0), .val (.bool false)]
set_option maxHeartbeats 4000000 in
set_option maxRecDepth 100000 in
theorem Look_c (b : Nat) (sz : Int) (H : List HO) (M : Mem) (hM : HeapAt b sz H M) (h : 0 < sz) (hH : ∀ o ∈ H, o.ok) (hu : used H ≤ 16777216) (w : Int) (h0 : 0 ≤ w) (h1 : w ≤ 18446744073709551615) : KCall Try.prog 18 [.ptr b 0, .val (.int .u64 w)] M (lookV H w) := by
  obtain ⟨now, gw, cw, gb, cb, x, y, rfl⟩ := hM
  have hA := fun s n => at_c now b s n x y gw cw gb cb (used H + 1) (hw H) (hb H) w h0 h1 (hw_len H) (hb_len H)
  have hl := hw_len H
  have hlm : ((hw H).map iv).length = used H + 1 := by simpa using hl
  unfold lookV
  cases ho : objOf H w with
  | none =>
    rw [at_none ho] at hA
    simp only [Bool.false_eq_true, if_false] at hA
    generalize (hw H).map iv = EW at *
    cases now
    all_goals
      simp only [spc, Bool.false_eq_true, if_false, if_true] at hA ⊢
      refine ACall.enter Try.func18 rfl (by kernel_rfl) rfl (Nat.le_of_ble_eq_true rfl) ?_
      refine c_start ?_
      refine c_seq ?_
      refine c_region ?_
      refine AOps.st 4 rfl rfl rfl (op_assign rfl rfl ?_)
      refine AOps.st 5 rfl rfl rfl (op_assign rfl rfl ?_)
      refine AOps.st 6 rfl rfl rfl (op_assign rfl rfl ?_)
      refine AOps.st 7 rfl rfl rfl (op_assign rfl rfl ?_)
      refine AOps.nil ?_
      refine go_code ?_
      refine c_seq ?_
      refine c_seq ?_
      refine c_region ?_
      refine AOps.st 10 rfl rfl rfl (op_move rfl rfl ?_)
      refine AOps.st 11 rfl rfl rfl (op_callk (xs := [.tmp 10]) [0] rfl rfl rfl (is_c b sz _ rfl h) (by first | exact Les.refl _ | (repeat' (first | exact Les.refl _ | refine Les.cons ?_ ?_ | exact Le.refl _ | exact Le.own _ _ _ | exact Le.nil _ | refine Le.agg ?_))) ?_)
      refine AOps.st 12 rfl rfl rfl (op_notc rfl rfl ?_); intro c12 h12
      try replace h12 := nott h12 h11
      refine AOps.nil ?_
      refine go_code ?_
      rcases bool_split h12 with ⟨rfl, g12⟩ | ⟨rfl, g12⟩
      · refine c_cond_f rfl ?_
        refine c_skip ?_
        refine go_code ?_
        refine c_seq ?_
        refine c_drawn tmix rfl ?_
        refine DOps.st 13 rfl rfl (op_move rfl rfl ⟨rfl, rfl⟩) ?_
        refine DOps.st 14 rfl rfl (op_move rfl rfl ⟨rfl, rfl⟩) ?_
        first | (refine DOps.st 15 rfl rfl (op_nilCheck_m rfl rfl ⟨rfl, rfl⟩) ?_) | (refine DOps.st 15 rfl rfl (op_nilCheck_c rfl rfl ⟨rfl, rfl⟩) ?_) | (refine DOps.st 15 rfl rfl (op_nilCheck_f rfl rfl ⟨rfl, rfl⟩) ?_)
        first | (refine DOps.st 16 rfl rfl (op_fieldAddr_m rfl tf_81_2 rfl ⟨rfl, rfl⟩) ?_) | (refine DOps.st 16 rfl rfl (op_fieldAddr_c rfl tf_81_2 rfl rfl ⟨rfl, rfl⟩) ?_)
        first | (refine DOps.st 17 rfl rfl (op_load_m1 (i := 0) rfl ta_3 rfl rfl rfl ⟨rfl, rfl⟩) ?_) | (refine DOps.st 17 rfl rfl (op_load_m1 (i := 1) rfl ta_3 rfl rfl rfl ⟨rfl, rfl⟩) ?_) | (refine DOps.st 17 rfl rfl (op_load_m1 (i := 2) rfl ta_3 rfl rfl rfl ⟨rfl, rfl⟩) ?_) | (refine DOps.st 17 rfl rfl (op_load_m1 (i := 3) rfl ta_3 rfl rfl rfl ⟨rfl, rfl⟩) ?_) | (refine DOps.st 17 rfl rfl (op_load_m1 (i := 4) rfl ta_3 rfl rfl rfl ⟨rfl, rfl⟩) ?_) | (refine DOps.st 17 rfl rfl (op_load_m1 (i := 5) rfl ta_3 rfl rfl rfl ⟨rfl, rfl⟩) ?_) | (refine DOps.st 17 rfl rfl (op_load_m1 (i := 6) rfl ta_3 rfl rfl rfl ⟨rfl, rfl⟩) ?_) | (refine DOps.st 17 rfl rfl (op_load_m1 (i := 7) rfl ta_3 rfl rfl rfl ⟨rfl, rfl⟩) ?_) | (refine DOps.st 17 rfl rfl (op_load_m1 (i := 8) rfl ta_3 rfl rfl rfl ⟨rfl, rfl⟩) ?_) | (refine DOps.st 17 rfl rfl (op_load_m1 (i := 9) rfl ta_3 rfl rfl rfl ⟨rfl, rfl⟩) ?_) | (refine DOps.st 17 rfl rfl (op_load_c1 rfl ta_3 rfl rfl ⟨rfl, rfl⟩) ?_)
        first | (refine DOps.st 18 rfl rfl (op_nilCheck_m rfl rfl ⟨rfl, rfl⟩) ?_) | (refine DOps.st 18 rfl rfl (op_nilCheck_c rfl rfl ⟨rfl, rfl⟩) ?_) | (refine DOps.st 18 rfl rfl (op_nilCheck_f rfl rfl ⟨rfl, rfl⟩) ?_)
        first | (refine DOps.st 19 rfl rfl (op_fieldAddr_m rfl tf_81_1 rfl ⟨rfl, rfl⟩) ?_) | (refine DOps.st 19 rfl rfl (op_fieldAddr_c rfl tf_81_1 rfl rfl ⟨rfl, rfl⟩) ?_)
        first | (refine DOps.st 20 rfl rfl (op_index_arrm (k := 0) rfl tu_79 ts_77 rfl rfl rfl (by decide) ⟨rfl, rfl⟩) ?_) | (refine DOps.st 20 rfl rfl (op_index_arrm (k := 1) rfl tu_79 ts_77 rfl rfl rfl (by decide) ⟨rfl, rfl⟩) ?_)
        refine DOps.st 8 rfl rfl (op_assign rfl rfl ⟨rfl, rfl⟩) ?_
        show AGo _ _ _ _ _ _ _
        refine go_code ?_
        refine c_seq ?_
        refine c_region ?_
        refine AOps.st 22 rfl rfl rfl (op_move rfl rfl ?_)
        refine AOps.st 23 rfl rfl rfl (op_move rfl rfl ?_)
        refine AOps.st 24 rfl rfl rfl (op_callk (xs := [.tmp 22, .tmp 23]) [0,0,0] rfl rfl rfl (hA _ _) (by first | exact Les.refl _ | (repeat' (first | exact Les.refl _ | refine Les.cons ?_ ?_ | exact Le.refl _ | exact Le.own _ _ _ | exact Le.nil _ | refine Le.agg ?_))) ?_)
        refine AOps.st 21 rfl rfl rfl (op_move rfl rfl ?_)
        refine AOps.st 25 rfl rfl rfl (op_extract rfl rfl rfl ?_)
        refine AOps.st 26 rfl rfl rfl (op_extract rfl rfl rfl ?_)
        refine AOps.st 9 rfl rfl rfl (op_assign rfl rfl ?_)
        refine AOps.st 7 rfl rfl rfl (op_assign rfl rfl ?_)
        refine AOps.nil ?_
        refine go_code ?_
        refine c_seq ?_
        refine c_seq ?_
        refine c_region ?_
        refine AOps.st 27 rfl rfl rfl (op_move rfl rfl ?_)
        refine AOps.st 28 rfl rfl rfl (op_notc rfl rfl ?_); intro c28 h28
        try replace h28 := nott h28 h26
        refine AOps.nil ?_
        refine go_code ?_
        rcases bool_split h28 with ⟨rfl, g28⟩ | ⟨rfl, g28⟩
        · refine c_cond_f rfl ?_
          refine c_skip ?_
          refine go_code ?_
          refine c_seq ?_
          exact absurd h28 (by simp)
        · refine c_cond_t rfl ?_
          refine c_seq ?_
          refine c_region ?_
          refine AOps.st 4 rfl rfl rfl (op_assign rfl rfl ?_)
          refine AOps.st 5 rfl rfl rfl (op_assign rfl rfl ?_)
          refine AOps.st 6 rfl rfl rfl (op_assign rfl rfl ?_)
          refine AOps.st 7 rfl rfl rfl (op_assign rfl rfl ?_)
          refine AOps.nil ?_
          refine go_code ?_
          refine c_ret ?_
          exact out_tttt rfl rfl rfl rfl rfl (Le.refl _) (by first | exact MLe.none _ | exact MLe.refl _ | (repeat' (first | exact MLe.nil | exact MLe.refl _ | refine MLe.cons _ ?_ | refine MLe.drop _ ?_))) ⟨rfl, rfl⟩
      · refine c_cond_t rfl ?_
        refine c_seq ?_
        exact absurd h12 (by simp)
  | some o =>
    obtain ⟨a, ha, hb1, ha1, ha2, hwa, hwi⟩ := at_some hu ho
    have hmem : o ∈ H := (obj_at ho).choose_spec.2.2.2.2.2.2
    obtain ⟨e1, e2, e3, e4⟩ := HO.open_ (hH o hmem)
    have hO := Open_p o.head (headW_lo _ _ _) (headW_hi _ _ _)
    rw [e1, e2, e3, e4] at hO
    rw [hb1, ha] at hA
    simp only [if_true] at hA
    have hx : ((hw H).map iv)[a]? = some [.val (.int .u64 o.head)] := by rw [List.getElem?_map, hwa]; rfl
    generalize (hw H).map iv = EW at *
    cases now
    all_goals
      simp only [spc, Bool.false_eq_true, if_false, if_true] at hA ⊢
      refine ACall.enter Try.func18 rfl (by kernel_rfl) rfl (Nat.le_of_ble_eq_true rfl) ?_
      refine c_start ?_
      refine c_seq ?_
      refine c_region ?_
      refine AOps.st 4 rfl rfl rfl (op_assign rfl rfl ?_)
      refine AOps.st 5 rfl rfl rfl (op_assign rfl rfl ?_)
      refine AOps.st 6 rfl rfl rfl (op_assign rfl rfl ?_)
      refine AOps.st 7 rfl rfl rfl (op_assign rfl rfl ?_)
      refine AOps.nil ?_
      refine go_code ?_
      refine c_seq ?_
      refine c_seq ?_
      refine c_region ?_
      refine AOps.st 10 rfl rfl rfl (op_move rfl rfl ?_)
      refine AOps.st 11 rfl rfl rfl (op_callk (xs := [.tmp 10]) [0] rfl rfl rfl (is_c b sz _ rfl h) (by first | exact Les.refl _ | (repeat' (first | exact Les.refl _ | refine Les.cons ?_ ?_ | exact Le.refl _ | exact Le.own _ _ _ | exact Le.nil _ | refine Le.agg ?_))) ?_)
      refine AOps.st 12 rfl rfl rfl (op_notc rfl rfl ?_); intro c12 h12
      try replace h12 := nott h12 h11
      refine AOps.nil ?_
      refine go_code ?_
      rcases bool_split h12 with ⟨rfl, g12⟩ | ⟨rfl, g12⟩
      · refine c_cond_f rfl ?_
        refine c_skip ?_
        refine go_code ?_
        refine c_seq ?_
        refine c_drawn tmix rfl ?_
        refine DOps.st 13 rfl rfl (op_move rfl rfl ⟨rfl, rfl⟩) ?_
        refine DOps.st 14 rfl rfl (op_move rfl rfl ⟨rfl, rfl⟩) ?_
        first | (refine DOps.st 15 rfl rfl (op_nilCheck_m rfl rfl ⟨rfl, rfl⟩) ?_) | (refine DOps.st 15 rfl rfl (op_nilCheck_c rfl rfl ⟨rfl, rfl⟩) ?_) | (refine DOps.st 15 rfl rfl (op_nilCheck_f rfl rfl ⟨rfl, rfl⟩) ?_)
        first | (refine DOps.st 16 rfl rfl (op_fieldAddr_m rfl tf_81_2 rfl ⟨rfl, rfl⟩) ?_) | (refine DOps.st 16 rfl rfl (op_fieldAddr_c rfl tf_81_2 rfl rfl ⟨rfl, rfl⟩) ?_)
        first | (refine DOps.st 17 rfl rfl (op_load_m1 (i := 0) rfl ta_3 rfl rfl rfl ⟨rfl, rfl⟩) ?_) | (refine DOps.st 17 rfl rfl (op_load_m1 (i := 1) rfl ta_3 rfl rfl rfl ⟨rfl, rfl⟩) ?_) | (refine DOps.st 17 rfl rfl (op_load_m1 (i := 2) rfl ta_3 rfl rfl rfl ⟨rfl, rfl⟩) ?_) | (refine DOps.st 17 rfl rfl (op_load_m1 (i := 3) rfl ta_3 rfl rfl rfl ⟨rfl, rfl⟩) ?_) | (refine DOps.st 17 rfl rfl (op_load_m1 (i := 4) rfl ta_3 rfl rfl rfl ⟨rfl, rfl⟩) ?_) | (refine DOps.st 17 rfl rfl (op_load_m1 (i := 5) rfl ta_3 rfl rfl rfl ⟨rfl, rfl⟩) ?_) | (refine DOps.st 17 rfl rfl (op_load_m1 (i := 6) rfl ta_3 rfl rfl rfl ⟨rfl, rfl⟩) ?_) | (refine DOps.st 17 rfl rfl (op_load_m1 (i := 7) rfl ta_3 rfl rfl rfl ⟨rfl, rfl⟩) ?_) | (refine DOps.st 17 rfl rfl (op_load_m1 (i := 8) rfl ta_3 rfl rfl rfl ⟨rfl, rfl⟩) ?_) | (refine DOps.st 17 rfl rfl (op_load_m1 (i := 9) rfl ta_3 rfl rfl rfl ⟨rfl, rfl⟩) ?_) | (refine DOps.st 17 rfl rfl (op_load_c1 rfl ta_3 rfl rfl ⟨rfl, rfl⟩) ?_)
        first | (refine DOps.st 18 rfl rfl (op_nilCheck_m rfl rfl ⟨rfl, rfl⟩) ?_) | (refine DOps.st 18 rfl rfl (op_nilCheck_c rfl rfl ⟨rfl, rfl⟩) ?_) | (refine DOps.st 18 rfl rfl (op_nilCheck_f rfl rfl ⟨rfl, rfl⟩) ?_)
        first | (refine DOps.st 19 rfl rfl (op_fieldAddr_m rfl tf_81_1 rfl ⟨rfl, rfl⟩) ?_) | (refine DOps.st 19 rfl rfl (op_fieldAddr_c rfl tf_81_1 rfl rfl ⟨rfl, rfl⟩) ?_)
        first | (refine DOps.st 20 rfl rfl (op_index_arrm (k := 0) rfl tu_79 ts_77 rfl rfl rfl (by decide) ⟨rfl, rfl⟩) ?_) | (refine DOps.st 20 rfl rfl (op_index_arrm (k := 1) rfl tu_79 ts_77 rfl rfl rfl (by decide) ⟨rfl, rfl⟩) ?_)
        refine DOps.st 8 rfl rfl (op_assign rfl rfl ⟨rfl, rfl⟩) ?_
        show AGo _ _ _ _ _ _ _
        refine go_code ?_
        refine c_seq ?_
        refine c_region ?_
        refine AOps.st 22 rfl rfl rfl (op_move rfl rfl ?_)
        refine AOps.st 23 rfl rfl rfl (op_move rfl rfl ?_)
        refine AOps.st 24 rfl rfl rfl (op_callk (xs := [.tmp 22, .tmp 23]) [0,0,0] rfl rfl rfl (hA _ _) (by first | exact Les.refl _ | (repeat' (first | exact Les.refl _ | refine Les.cons ?_ ?_ | exact Le.refl _ | exact Le.own _ _ _ | exact Le.nil _ | refine Le.agg ?_))) ?_)
        refine AOps.st 21 rfl rfl rfl (op_move rfl rfl ?_)
        refine AOps.st 25 rfl rfl rfl (op_extract rfl rfl rfl ?_)
        refine AOps.st 26 rfl rfl rfl (op_extract rfl rfl rfl ?_)
        refine AOps.st 9 rfl rfl rfl (op_assign rfl rfl ?_)
        refine AOps.st 7 rfl rfl rfl (op_assign rfl rfl ?_)
        refine AOps.nil ?_
        refine go_code ?_
        refine c_seq ?_
        refine c_seq ?_
        refine c_region ?_
        refine AOps.st 27 rfl rfl rfl (op_move rfl rfl ?_)
        refine AOps.st 28 rfl rfl rfl (op_notc rfl rfl ?_); intro c28 h28
        try replace h28 := nott h28 h26
        refine AOps.nil ?_
        refine go_code ?_
        rcases bool_split h28 with ⟨rfl, g28⟩ | ⟨rfl, g28⟩
        · refine c_cond_f rfl ?_
          refine c_skip ?_
          refine go_code ?_
          refine c_seq ?_
          refine c_region ?_
          refine AOps.st 29 rfl rfl rfl (op_move rfl rfl ?_)
          first | (refine AOps.st 30 rfl rfl rfl (op_nilCheck_m rfl rfl ?_)) | (refine AOps.st 30 rfl rfl rfl (op_nilCheck_c rfl rfl ?_)) | (refine AOps.st 30 rfl rfl rfl (op_nilCheck_f rfl rfl ?_))
          first | (refine AOps.st 31 rfl rfl rfl (op_fieldAddr_m rfl tf_77_0 rfl ?_)) | (refine AOps.st 31 rfl rfl rfl (op_fieldAddr_c rfl tf_77_0 rfl rfl ?_))
          first | (refine AOps.st 32 rfl rfl rfl (op_load_m1 (i := 0) rfl ta_34 rfl rfl rfl ?_)) | (refine AOps.st 32 rfl rfl rfl (op_load_m1 (i := 1) rfl ta_34 rfl rfl rfl ?_)) | (refine AOps.st 32 rfl rfl rfl (op_load_m1 (i := 2) rfl ta_34 rfl rfl rfl ?_)) | (refine AOps.st 32 rfl rfl rfl (op_load_m1 (i := 3) rfl ta_34 rfl rfl rfl ?_)) | (refine AOps.st 32 rfl rfl rfl (op_load_m1 (i := 4) rfl ta_34 rfl rfl rfl ?_)) | (refine AOps.st 32 rfl rfl rfl (op_load_m1 (i := 5) rfl ta_34 rfl rfl rfl ?_)) | (refine AOps.st 32 rfl rfl rfl (op_load_m1 (i := 6) rfl ta_34 rfl rfl rfl ?_)) | (refine AOps.st 32 rfl rfl rfl (op_load_m1 (i := 7) rfl ta_34 rfl rfl rfl ?_)) | (refine AOps.st 32 rfl rfl rfl (op_load_m1 (i := 8) rfl ta_34 rfl rfl rfl ?_)) | (refine AOps.st 32 rfl rfl rfl (op_load_m1 (i := 9) rfl ta_34 rfl rfl rfl ?_)) | (refine AOps.st 32 rfl rfl rfl (op_load_c1 rfl ta_34 rfl rfl ?_))
          refine AOps.st 33 rfl rfl rfl (op_move rfl rfl ?_)
          refine AOps.st 34 rfl rfl rfl (op_index_row (i := 1) (k := a) rfl te_34 rfl rfl rfl (by first | rfl | omega) (by omega) ?_)
          refine AOps.st 35 rfl rfl rfl (op_load_row1 (i := 1) (k := a) (f := 0) rfl ta_42 rfl rfl rfl (hx) rfl ?_)
          refine AOps.st 36 rfl rfl rfl (op_callp (xs := [.tmp 35]) rfl rfl (hO) (by first | exact Les.refl _ | (repeat' (first | exact Les.refl _ | refine Les.cons ?_ ?_ | exact Le.refl _ | exact Le.own _ _ _ | exact Le.nil _ | refine Le.agg ?_))) ?_)
          refine AOps.st 37 rfl rfl rfl (op_extract rfl rfl rfl ?_)
          refine AOps.st 38 rfl rfl rfl (op_extract rfl rfl rfl ?_)
          refine AOps.st 39 rfl rfl rfl (op_extract rfl rfl rfl ?_)
          refine AOps.st 40 rfl rfl rfl (op_extract rfl rfl rfl ?_)
          refine AOps.st 4 rfl rfl rfl (op_assign rfl rfl ?_)
          refine AOps.st 5 rfl rfl rfl (op_assign rfl rfl ?_)
          refine AOps.st 6 rfl rfl rfl (op_assign rfl rfl ?_)
          refine AOps.st 7 rfl rfl rfl (op_assign rfl rfl ?_)
          refine AOps.nil ?_
          refine go_code ?_
          refine c_ret ?_
          exact out_tttt rfl rfl rfl rfl rfl (Le.refl _) (by first | exact MLe.none _ | exact MLe.refl _ | (repeat' (first | exact MLe.nil | exact MLe.refl _ | refine MLe.cons _ ?_ | refine MLe.drop _ ?_))) ⟨rfl, rfl⟩
        · refine c_cond_t rfl ?_
          refine c_seq ?_
          exact absurd h28 (by simp)
      · refine c_cond_t rfl ?_
        refine c_seq ?_
        exact absurd h12 (by simp)
set_option maxHeartbeats 4000000 in
set_option maxRecDepth 100000 in
theorem place_some (now : Bool) (b gw cw gb cb : Nat) (x y : AV) (sz : Int) (H : List HO) (h : 0 < sz) (hH : ∀ o ∈ H, o.ok) (hu : used H ≤ 16777216) (w : Int) (h0 : 0 ≤ w) (h1 : w ≤ 18446744073709551615) (o : HO) (ho : objOf H w = some o) (a : Nat) (ha : atV w = (a : Int)) (i : Nat) (hi : i < o.parts.length) (M : Mem)
    (hM : M = [.loc b (spc now (.val (.int .i64 sz)) (nowV now) (.val (rowv gw (used H + 1) cw)) (.val (rowv gb (used H + 1) cb)) x y), .row 42 1 (rowv gw (used H + 1) cw) ((hw H).map iv), .row 4 1 (rowv gb (used H + 1) cb) ((hb H).map bv)]) :
    KCall Try.prog 50 [.ptr b 0, .val (.int .u64 w), .val (.int .i64 i)] M (.tup [.ptr gw ((a + 1 + i) * 1), .val (.bool true)]) := by
  have hL := Look_c b sz H M ⟨now, gw, cw, gb, cb, x, y, hM⟩ h hH hu w h0 h1
  subst hM
  have hA := fun s n => at_c now b s n x y gw cw gb cb (used H + 1) (hw H) (hb H) w h0 h1 (hw_len H) (hb_len H)
  have hl := hw_len H
  have hlm : ((hw H).map iv).length = used H + 1 := by simpa using hl
  obtain ⟨a', ha', hb1, ha1, ha2, _, _⟩ := at_some hu ho
  have : a' = a := by omega
  subst this
  unfold lookV at hL
  rw [ho] at hL
  rw [hb1, ha] at hA
  simp only [if_true] at hA hL
  generalize (hw H).map iv = EW at *
  cases now
  all_goals
    simp only [spc, Bool.false_eq_true, if_false, if_true] at hA hL ⊢
    refine ACall.enter Try.func50 rfl (by kernel_rfl) rfl (Nat.le_of_ble_eq_true rfl) ?_
    refine c_start ?_
    refine c_seq ?_
    refine c_region ?_
    refine AOps.st 6 rfl rfl rfl (op_assign rfl rfl ?_)
    refine AOps.st 7 rfl rfl rfl (op_assign rfl rfl ?_)
    refine AOps.nil ?_
    refine go_code ?_
    refine c_seq ?_
    refine c_region ?_
    refine AOps.st 16 rfl rfl rfl (op_move rfl rfl ?_)
    refine AOps.st 17 rfl rfl rfl (op_move rfl rfl ?_)
    refine AOps.st 18 rfl rfl rfl (op_callk (xs := [.tmp 16, .tmp 17]) [0,0,0] rfl rfl rfl (hL) (by first | exact Les.refl _ | (repeat' (first | exact Les.refl _ | refine Les.cons ?_ ?_ | exact Le.refl _ | exact Le.own _ _ _ | exact Le.nil _ | refine Le.agg ?_))) ?_)
    refine AOps.st 15 rfl rfl rfl (op_move rfl rfl ?_)
    refine AOps.st 19 rfl rfl rfl (op_extract rfl rfl rfl ?_)
    refine AOps.st 20 rfl rfl rfl (op_extract rfl rfl rfl ?_)
    refine AOps.st 21 rfl rfl rfl (op_extract rfl rfl rfl ?_)
    refine AOps.st 22 rfl rfl rfl (op_extract rfl rfl rfl ?_)
    refine AOps.st 8 rfl rfl rfl (op_assign rfl rfl ?_)
    refine AOps.st 9 rfl rfl rfl (op_assign rfl rfl ?_)
    refine AOps.st 10 rfl rfl rfl (op_assign rfl rfl ?_)
    refine AOps.st 11 rfl rfl rfl (op_assign rfl rfl ?_)
    refine AOps.nil ?_
    refine go_code ?_
    refine c_seq ?_
    refine c_seq ?_
    refine c_bool 33 (False) ?_ _ _ rfl ?_
    · skip
      refine AOps.st 23 rfl rfl rfl (op_move rfl rfl ?_)
      refine AOps.st 24 rfl rfl rfl (op_notc rfl rfl ?_); intro c24 h24
      try replace h24 := nott h24 h22
      refine AOps.st 25 rfl rfl rfl (op_move rfl rfl ?_)
      rcases bool_split h24 with ⟨rfl, g24⟩ | ⟨rfl, g24⟩
      · skip
        refine AOps.gt 26 rfl rfl rfl rfl rfl (op_move rfl rfl ?_)
        refine AOps.gt 27 rfl rfl rfl rfl rfl (op_lss rfl rfl rfl ?_); intro c27 h27
        refine AOps.st 28 rfl rfl rfl (op_pick rfl rfl rfl ?_)
        refine AOps.st 29 rfl rfl rfl (op_move rfl rfl ?_)
        rcases bool_split h27 with ⟨rfl, g27⟩ | ⟨rfl, g27⟩
        · skip
          refine AOps.gt 30 rfl rfl rfl rfl rfl (op_move rfl rfl ?_)
          refine AOps.gt 31 rfl rfl rfl rfl rfl (op_move rfl rfl ?_)
          refine AOps.gt 32 rfl rfl rfl rfl rfl (op_geq rfl rfl rfl ?_); intro c32 h32
          refine AOps.st 33 rfl rfl rfl (op_pick rfl rfl rfl ?_)
          refine AOps.nil ?_
          refine BoolQ.mk rfl ?_ (by repeat' (first | exact SLe.wo _ _ | exact SLe.refl _ | refine SLe.fresh rfl ?_)) (by first | exact MLe.none _ | exact MLe.refl _ | (repeat' (first | exact MLe.nil | exact MLe.refl _ | refine MLe.cons _ ?_ | refine MLe.drop _ ?_)))
          first | (simp_all; done) | (simp_all; omega)
        · skip
          refine AOps.gf 30 rfl rfl rfl rfl rfl ?_
          refine AOps.gf 31 rfl rfl rfl rfl rfl ?_
          refine AOps.gf 32 rfl rfl rfl rfl rfl ?_
          refine AOps.st 33 rfl rfl rfl (op_pick rfl rfl rfl ?_)
          refine AOps.nil ?_
          refine BoolQ.mk rfl ?_ (by repeat' (first | exact SLe.wo _ _ | exact SLe.refl _ | refine SLe.fresh rfl ?_)) (by first | exact MLe.none _ | exact MLe.refl _ | (repeat' (first | exact MLe.nil | exact MLe.refl _ | refine MLe.cons _ ?_ | refine MLe.drop _ ?_)))
          first | (simp_all; done) | (simp_all; omega)
      · skip
        refine AOps.gf 26 rfl rfl rfl rfl rfl ?_
        refine AOps.gf 27 rfl rfl rfl rfl rfl ?_
        refine AOps.st 28 rfl rfl rfl (op_pick rfl rfl rfl ?_)
        refine AOps.st 29 rfl rfl rfl (op_move rfl rfl ?_)
        refine AOps.gf 30 rfl rfl rfl rfl rfl ?_
        refine AOps.gf 31 rfl rfl rfl rfl rfl ?_
        refine AOps.gf 32 rfl rfl rfl rfl rfl ?_
        refine AOps.st 33 rfl rfl rfl (op_pick rfl rfl rfl ?_)
        refine AOps.nil ?_
        refine BoolQ.mk rfl ?_ (by repeat' (first | exact SLe.wo _ _ | exact SLe.refl _ | refine SLe.fresh rfl ?_)) (by first | exact MLe.none _ | exact MLe.refl _ | (repeat' (first | exact MLe.nil | exact MLe.refl _ | refine MLe.cons _ ?_ | refine MLe.drop _ ?_)))
        first | (simp_all; done) | (simp_all; omega)
    intro c33 h33
    refine go_code ?_
    rcases bool_split h33 with ⟨rfl, g33⟩ | ⟨rfl, g33⟩
    · refine c_cond_f rfl ?_
      refine c_skip ?_
      refine go_code ?_
      refine c_seq ?_
      refine c_drawn tmix rfl ?_
      refine DOps.st 34 rfl rfl (op_move rfl rfl ⟨rfl, rfl⟩) ?_
      refine DOps.st 35 rfl rfl (op_move rfl rfl ⟨rfl, rfl⟩) ?_
      first | (refine DOps.st 36 rfl rfl (op_nilCheck_m rfl rfl ⟨rfl, rfl⟩) ?_) | (refine DOps.st 36 rfl rfl (op_nilCheck_c rfl rfl ⟨rfl, rfl⟩) ?_) | (refine DOps.st 36 rfl rfl (op_nilCheck_f rfl rfl ⟨rfl, rfl⟩) ?_)
      first | (refine DOps.st 37 rfl rfl (op_fieldAddr_m rfl tf_81_2 rfl ⟨rfl, rfl⟩) ?_) | (refine DOps.st 37 rfl rfl (op_fieldAddr_c rfl tf_81_2 rfl rfl ⟨rfl, rfl⟩) ?_)
      first | (refine DOps.st 38 rfl rfl (op_load_m1 (i := 0) rfl ta_3 rfl rfl rfl ⟨rfl, rfl⟩) ?_) | (refine DOps.st 38 rfl rfl (op_load_m1 (i := 1) rfl ta_3 rfl rfl rfl ⟨rfl, rfl⟩) ?_) | (refine DOps.st 38 rfl rfl (op_load_m1 (i := 2) rfl ta_3 rfl rfl rfl ⟨rfl, rfl⟩) ?_) | (refine DOps.st 38 rfl rfl (op_load_m1 (i := 3) rfl ta_3 rfl rfl rfl ⟨rfl, rfl⟩) ?_) | (refine DOps.st 38 rfl rfl (op_load_m1 (i := 4) rfl ta_3 rfl rfl rfl ⟨rfl, rfl⟩) ?_) | (refine DOps.st 38 rfl rfl (op_load_m1 (i := 5) rfl ta_3 rfl rfl rfl ⟨rfl, rfl⟩) ?_) | (refine DOps.st 38 rfl rfl (op_load_m1 (i := 6) rfl ta_3 rfl rfl rfl ⟨rfl, rfl⟩) ?_) | (refine DOps.st 38 rfl rfl (op_load_m1 (i := 7) rfl ta_3 rfl rfl rfl ⟨rfl, rfl⟩) ?_) | (refine DOps.st 38 rfl rfl (op_load_m1 (i := 8) rfl ta_3 rfl rfl rfl ⟨rfl, rfl⟩) ?_) | (refine DOps.st 38 rfl rfl (op_load_m1 (i := 9) rfl ta_3 rfl rfl rfl ⟨rfl, rfl⟩) ?_) | (refine DOps.st 38 rfl rfl (op_load_c1 rfl ta_3 rfl rfl ⟨rfl, rfl⟩) ?_)
      first | (refine DOps.st 39 rfl rfl (op_nilCheck_m rfl rfl ⟨rfl, rfl⟩) ?_) | (refine DOps.st 39 rfl rfl (op_nilCheck_c rfl rfl ⟨rfl, rfl⟩) ?_) | (refine DOps.st 39 rfl rfl (op_nilCheck_f rfl rfl ⟨rfl, rfl⟩) ?_)
      first | (refine DOps.st 40 rfl rfl (op_fieldAddr_m rfl tf_81_1 rfl ⟨rfl, rfl⟩) ?_) | (refine DOps.st 40 rfl rfl (op_fieldAddr_c rfl tf_81_1 rfl rfl ⟨rfl, rfl⟩) ?_)
      first | (refine DOps.st 41 rfl rfl (op_index_arrm (k := 0) rfl tu_79 ts_77 rfl rfl rfl (by decide) ⟨rfl, rfl⟩) ?_) | (refine DOps.st 41 rfl rfl (op_index_arrm (k := 1) rfl tu_79 ts_77 rfl rfl rfl (by decide) ⟨rfl, rfl⟩) ?_)
      refine DOps.st 12 rfl rfl (op_assign rfl rfl ⟨rfl, rfl⟩) ?_
      show AGo _ _ _ _ _ _ _
      refine go_code ?_
      refine c_seq ?_
      refine c_region ?_
      refine AOps.st 43 rfl rfl rfl (op_move rfl rfl ?_)
      refine AOps.st 44 rfl rfl rfl (op_move rfl rfl ?_)
      refine AOps.st 45 rfl rfl rfl (op_callk (xs := [.tmp 43, .tmp 44]) [0,0,0] rfl rfl rfl (hA _ _) (by first | exact Les.refl _ | (repeat' (first | exact Les.refl _ | refine Les.cons ?_ ?_ | exact Le.refl _ | exact Le.own _ _ _ | exact Le.nil _ | refine Le.agg ?_))) ?_)
      refine AOps.st 42 rfl rfl rfl (op_move rfl rfl ?_)
      refine AOps.st 46 rfl rfl rfl (op_extract rfl rfl rfl ?_)
      refine AOps.st 47 rfl rfl rfl (op_extract rfl rfl rfl ?_)
      refine AOps.st 13 rfl rfl rfl (op_assign rfl rfl ?_)
      refine AOps.st 14 rfl rfl rfl (op_assign rfl rfl ?_)
      refine AOps.nil ?_
      refine go_code ?_
      refine c_seq ?_
      refine c_region ?_
      refine AOps.st 48 rfl rfl rfl (op_move rfl rfl ?_)
      first | (refine AOps.st 49 rfl rfl rfl (op_nilCheck_m rfl rfl ?_)) | (refine AOps.st 49 rfl rfl rfl (op_nilCheck_c rfl rfl ?_)) | (refine AOps.st 49 rfl rfl rfl (op_nilCheck_f rfl rfl ?_))
      first | (refine AOps.st 50 rfl rfl rfl (op_fieldAddr_m rfl tf_77_0 rfl ?_)) | (refine AOps.st 50 rfl rfl rfl (op_fieldAddr_c rfl tf_77_0 rfl rfl ?_))
      first | (refine AOps.st 51 rfl rfl rfl (op_load_m1 (i := 0) rfl ta_34 rfl rfl rfl ?_)) | (refine AOps.st 51 rfl rfl rfl (op_load_m1 (i := 1) rfl ta_34 rfl rfl rfl ?_)) | (refine AOps.st 51 rfl rfl rfl (op_load_m1 (i := 2) rfl ta_34 rfl rfl rfl ?_)) | (refine AOps.st 51 rfl rfl rfl (op_load_m1 (i := 3) rfl ta_34 rfl rfl rfl ?_)) | (refine AOps.st 51 rfl rfl rfl (op_load_m1 (i := 4) rfl ta_34 rfl rfl rfl ?_)) | (refine AOps.st 51 rfl rfl rfl (op_load_m1 (i := 5) rfl ta_34 rfl rfl rfl ?_)) | (refine AOps.st 51 rfl rfl rfl (op_load_m1 (i := 6) rfl ta_34 rfl rfl rfl ?_)) | (refine AOps.st 51 rfl rfl rfl (op_load_m1 (i := 7) rfl ta_34 rfl rfl rfl ?_)) | (refine AOps.st 51 rfl rfl rfl (op_load_m1 (i := 8) rfl ta_34 rfl rfl rfl ?_)) | (refine AOps.st 51 rfl rfl rfl (op_load_m1 (i := 9) rfl ta_34 rfl rfl rfl ?_)) | (refine AOps.st 51 rfl rfl rfl (op_load_c1 rfl ta_34 rfl rfl ?_))
      refine AOps.st 52 rfl rfl rfl (op_move rfl rfl ?_)
      first | (refine AOps.st 53 rfl rfl rfl (op_add rfl rfl rfl (IntWalk.i64_in _ (by omega)) ?_)) | (refine AOps.st 53 rfl rfl rfl (op_add rfl rfl rfl rfl ?_))
      refine AOps.st 54 rfl rfl rfl (op_move rfl rfl ?_)
      first | (refine AOps.st 55 rfl rfl rfl (op_add rfl rfl rfl (IntWalk.i64_in _ (by omega)) ?_)) | (refine AOps.st 55 rfl rfl rfl (op_add rfl rfl rfl rfl ?_))
      refine AOps.st 56 rfl rfl rfl (op_index_row (i := 1) (k := a' + 1 + i) rfl te_34 rfl rfl rfl (by first | rfl | omega) (by omega) ?_)
      refine AOps.st 6 rfl rfl rfl (op_assign rfl rfl ?_)
      refine AOps.st 7 rfl rfl rfl (op_assign rfl rfl ?_)
      refine AOps.nil ?_
      refine go_code ?_
      refine c_ret ?_
      exact out_tt rfl rfl rfl (Le.refl _) (by first | exact MLe.none _ | exact MLe.refl _ | (repeat' (first | exact MLe.nil | exact MLe.refl _ | refine MLe.cons _ ?_ | refine MLe.drop _ ?_))) ⟨rfl, rfl⟩
    · refine c_cond_t rfl ?_
      refine c_seq ?_
      exact g33.elim
set_option maxHeartbeats 4000000 in
set_option maxRecDepth 100000 in
theorem place_none (b : Nat) (sz : Int) (H : List HO) (h : 0 < sz) (hH : ∀ o ∈ H, o.ok) (hu : used H ≤ 16777216) (w : Int) (h0 : 0 ≤ w) (h1 : w ≤ 18446744073709551615) (i : Int) (hn : ∀ o, objOf H w = some o → ¬ (0 ≤ i ∧ i < o.parts.length)) (M : Mem) (hM : HeapAt b sz H M) :
    KCall Try.prog 50 [.ptr b 0, .val (.int .u64 w), .val (.int .i64 i)] M (.tup [.val (.pointer none), .val (.bool false)]) := by
  have hL := Look_c b sz H M hM h hH hu w h0 h1
  obtain ⟨now, gw, cw, gb, cb, x, y, rfl⟩ := hM
  unfold lookV at hL
  cases ho : objOf H w with
  | none =>
    rw [ho] at hL
    simp only at hL
    refine ACall.enter Try.func50 rfl (by kernel_rfl) rfl (Nat.le_of_ble_eq_true rfl) ?_
    refine c_start ?_
    refine c_seq ?_
    refine c_region ?_
    refine AOps.st 6 rfl rfl rfl (op_assign rfl rfl ?_)
    refine AOps.st 7 rfl rfl rfl (op_assign rfl rfl ?_)
    refine AOps.nil ?_
    refine go_code ?_
    refine c_seq ?_
    refine c_region ?_
    refine AOps.st 16 rfl rfl rfl (op_move rfl rfl ?_)
    refine AOps.st 17 rfl rfl rfl (op_move rfl rfl ?_)
    refine AOps.st 18 rfl rfl rfl (op_callk (xs := [.tmp 16, .tmp 17]) [0,0,0] rfl rfl rfl (hL) (by first | exact Les.refl _ | (repeat' (first | exact Les.refl _ | refine Les.cons ?_ ?_ | exact Le.refl _ | exact Le.own _ _ _ | exact Le.nil _ | refine Le.agg ?_))) ?_)
    refine AOps.st 15 rfl rfl rfl (op_move rfl rfl ?_)
    refine AOps.st 19 rfl rfl rfl (op_extract rfl rfl rfl ?_)
    refine AOps.st 20 rfl rfl rfl (op_extract rfl rfl rfl ?_)
    refine AOps.st 21 rfl rfl rfl (op_extract rfl rfl rfl ?_)
    refine AOps.st 22 rfl rfl rfl (op_extract rfl rfl rfl ?_)
    refine AOps.st 8 rfl rfl rfl (op_assign rfl rfl ?_)
    refine AOps.st 9 rfl rfl rfl (op_assign rfl rfl ?_)
    refine AOps.st 10 rfl rfl rfl (op_assign rfl rfl ?_)
    refine AOps.st 11 rfl rfl rfl (op_assign rfl rfl ?_)
    refine AOps.nil ?_
    refine go_code ?_
    refine c_seq ?_
    refine c_seq ?_
    refine c_bool 33 (True) ?_ _ _ rfl ?_
    · skip
      refine AOps.st 23 rfl rfl rfl (op_move rfl rfl ?_)
      refine AOps.st 24 rfl rfl rfl (op_notc rfl rfl ?_); intro c24 h24
      try replace h24 := nott h24 h22
      refine AOps.st 25 rfl rfl rfl (op_move rfl rfl ?_)
      rcases bool_split h24 with ⟨rfl, g24⟩ | ⟨rfl, g24⟩
      · skip
        refine AOps.gt 26 rfl rfl rfl rfl rfl (op_move rfl rfl ?_)
        refine AOps.gt 27 rfl rfl rfl rfl rfl (op_lss rfl rfl rfl ?_); intro c27 h27
        refine AOps.st 28 rfl rfl rfl (op_pick rfl rfl rfl ?_)
        refine AOps.st 29 rfl rfl rfl (op_move rfl rfl ?_)
        rcases bool_split h27 with ⟨rfl, g27⟩ | ⟨rfl, g27⟩
        · skip
          refine AOps.gt 30 rfl rfl rfl rfl rfl (op_move rfl rfl ?_)
          refine AOps.gt 31 rfl rfl rfl rfl rfl (op_move rfl rfl ?_)
          refine AOps.gt 32 rfl rfl rfl rfl rfl (op_geq rfl rfl rfl ?_); intro c32 h32
          refine AOps.st 33 rfl rfl rfl (op_pick rfl rfl rfl ?_)
          refine AOps.nil ?_
          refine BoolQ.mk rfl ?_ (by repeat' (first | exact SLe.wo _ _ | exact SLe.refl _ | refine SLe.fresh rfl ?_)) (by first | exact MLe.none _ | exact MLe.refl _ | (repeat' (first | exact MLe.nil | exact MLe.refl _ | refine MLe.cons _ ?_ | refine MLe.drop _ ?_)))
          first | (simp_all; done) | (simp_all; omega)
        · skip
          refine AOps.gf 30 rfl rfl rfl rfl rfl ?_
          refine AOps.gf 31 rfl rfl rfl rfl rfl ?_
          refine AOps.gf 32 rfl rfl rfl rfl rfl ?_
          refine AOps.st 33 rfl rfl rfl (op_pick rfl rfl rfl ?_)
          refine AOps.nil ?_
          refine BoolQ.mk rfl ?_ (by repeat' (first | exact SLe.wo _ _ | exact SLe.refl _ | refine SLe.fresh rfl ?_)) (by first | exact MLe.none _ | exact MLe.refl _ | (repeat' (first | exact MLe.nil | exact MLe.refl _ | refine MLe.cons _ ?_ | refine MLe.drop _ ?_)))
          first | (simp_all; done) | (simp_all; omega)
      · skip
        refine AOps.gf 26 rfl rfl rfl rfl rfl ?_
        refine AOps.gf 27 rfl rfl rfl rfl rfl ?_
        refine AOps.st 28 rfl rfl rfl (op_pick rfl rfl rfl ?_)
        refine AOps.st 29 rfl rfl rfl (op_move rfl rfl ?_)
        refine AOps.gf 30 rfl rfl rfl rfl rfl ?_
        refine AOps.gf 31 rfl rfl rfl rfl rfl ?_
        refine AOps.gf 32 rfl rfl rfl rfl rfl ?_
        refine AOps.st 33 rfl rfl rfl (op_pick rfl rfl rfl ?_)
        refine AOps.nil ?_
        refine BoolQ.mk rfl ?_ (by repeat' (first | exact SLe.wo _ _ | exact SLe.refl _ | refine SLe.fresh rfl ?_)) (by first | exact MLe.none _ | exact MLe.refl _ | (repeat' (first | exact MLe.nil | exact MLe.refl _ | refine MLe.cons _ ?_ | refine MLe.drop _ ?_)))
        first | (simp_all; done) | (simp_all; omega)
    intro c33 h33
    refine go_code ?_
    rcases bool_split h33 with ⟨rfl, g33⟩ | ⟨rfl, g33⟩
    · refine c_cond_f rfl ?_
      refine c_skip ?_
      refine go_code ?_
      refine c_seq ?_
      exact absurd trivial g33
    · refine c_cond_t rfl ?_
      refine c_seq ?_
      refine c_region ?_
      refine AOps.st 6 rfl rfl rfl (op_assign rfl rfl ?_)
      refine AOps.st 7 rfl rfl rfl (op_assign rfl rfl ?_)
      refine AOps.nil ?_
      refine go_code ?_
      refine c_ret ?_
      exact out_tt rfl rfl rfl (Le.refl _) (by first | exact MLe.none _ | exact MLe.refl _ | (repeat' (first | exact MLe.nil | exact MLe.refl _ | refine MLe.cons _ ?_ | refine MLe.drop _ ?_))) ⟨rfl, rfl⟩
  | some o =>
    rw [ho] at hL
    simp only at hL
    have hn := hn o ho
    refine ACall.enter Try.func50 rfl (by kernel_rfl) rfl (Nat.le_of_ble_eq_true rfl) ?_
    refine c_start ?_
    refine c_seq ?_
    refine c_region ?_
    refine AOps.st 6 rfl rfl rfl (op_assign rfl rfl ?_)
    refine AOps.st 7 rfl rfl rfl (op_assign rfl rfl ?_)
    refine AOps.nil ?_
    refine go_code ?_
    refine c_seq ?_
    refine c_region ?_
    refine AOps.st 16 rfl rfl rfl (op_move rfl rfl ?_)
    refine AOps.st 17 rfl rfl rfl (op_move rfl rfl ?_)
    refine AOps.st 18 rfl rfl rfl (op_callk (xs := [.tmp 16, .tmp 17]) [0,0,0] rfl rfl rfl (hL) (by first | exact Les.refl _ | (repeat' (first | exact Les.refl _ | refine Les.cons ?_ ?_ | exact Le.refl _ | exact Le.own _ _ _ | exact Le.nil _ | refine Le.agg ?_))) ?_)
    refine AOps.st 15 rfl rfl rfl (op_move rfl rfl ?_)
    refine AOps.st 19 rfl rfl rfl (op_extract rfl rfl rfl ?_)
    refine AOps.st 20 rfl rfl rfl (op_extract rfl rfl rfl ?_)
    refine AOps.st 21 rfl rfl rfl (op_extract rfl rfl rfl ?_)
    refine AOps.st 22 rfl rfl rfl (op_extract rfl rfl rfl ?_)
    refine AOps.st 8 rfl rfl rfl (op_assign rfl rfl ?_)
    refine AOps.st 9 rfl rfl rfl (op_assign rfl rfl ?_)
    refine AOps.st 10 rfl rfl rfl (op_assign rfl rfl ?_)
    refine AOps.st 11 rfl rfl rfl (op_assign rfl rfl ?_)
    refine AOps.nil ?_
    refine go_code ?_
    refine c_seq ?_
    refine c_seq ?_
    refine c_bool 33 (True) ?_ _ _ rfl ?_
    · skip
      refine AOps.st 23 rfl rfl rfl (op_move rfl rfl ?_)
      refine AOps.st 24 rfl rfl rfl (op_notc rfl rfl ?_); intro c24 h24
      try replace h24 := nott h24 h22
      refine AOps.st 25 rfl rfl rfl (op_move rfl rfl ?_)
      rcases bool_split h24 with ⟨rfl, g24⟩ | ⟨rfl, g24⟩
      · skip
        refine AOps.gt 26 rfl rfl rfl rfl rfl (op_move rfl rfl ?_)
        refine AOps.gt 27 rfl rfl rfl rfl rfl (op_lss rfl rfl rfl ?_); intro c27 h27
        refine AOps.st 28 rfl rfl rfl (op_pick rfl rfl rfl ?_)
        refine AOps.st 29 rfl rfl rfl (op_move rfl rfl ?_)
        rcases bool_split h27 with ⟨rfl, g27⟩ | ⟨rfl, g27⟩
        · skip
          refine AOps.gt 30 rfl rfl rfl rfl rfl (op_move rfl rfl ?_)
          refine AOps.gt 31 rfl rfl rfl rfl rfl (op_move rfl rfl ?_)
          refine AOps.gt 32 rfl rfl rfl rfl rfl (op_geq rfl rfl rfl ?_); intro c32 h32
          refine AOps.st 33 rfl rfl rfl (op_pick rfl rfl rfl ?_)
          refine AOps.nil ?_
          refine BoolQ.mk rfl ?_ (by repeat' (first | exact SLe.wo _ _ | exact SLe.refl _ | refine SLe.fresh rfl ?_)) (by first | exact MLe.none _ | exact MLe.refl _ | (repeat' (first | exact MLe.nil | exact MLe.refl _ | refine MLe.cons _ ?_ | refine MLe.drop _ ?_)))
          first | (simp_all; done) | (simp_all; omega)
        · skip
          refine AOps.gf 30 rfl rfl rfl rfl rfl ?_
          refine AOps.gf 31 rfl rfl rfl rfl rfl ?_
          refine AOps.gf 32 rfl rfl rfl rfl rfl ?_
          refine AOps.st 33 rfl rfl rfl (op_pick rfl rfl rfl ?_)
          refine AOps.nil ?_
          refine BoolQ.mk rfl ?_ (by repeat' (first | exact SLe.wo _ _ | exact SLe.refl _ | refine SLe.fresh rfl ?_)) (by first | exact MLe.none _ | exact MLe.refl _ | (repeat' (first | exact MLe.nil | exact MLe.refl _ | refine MLe.cons _ ?_ | refine MLe.drop _ ?_)))
          first | (simp_all; done) | (simp_all; omega)
      · skip
        refine AOps.gf 26 rfl rfl rfl rfl rfl ?_
        refine AOps.gf 27 rfl rfl rfl rfl rfl ?_
        refine AOps.st 28 rfl rfl rfl (op_pick rfl rfl rfl ?_)
        refine AOps.st 29 rfl rfl rfl (op_move rfl rfl ?_)
        refine AOps.gf 30 rfl rfl rfl rfl rfl ?_
        refine AOps.gf 31 rfl rfl rfl rfl rfl ?_
        refine AOps.gf 32 rfl rfl rfl rfl rfl ?_
        refine AOps.st 33 rfl rfl rfl (op_pick rfl rfl rfl ?_)
        refine AOps.nil ?_
        refine BoolQ.mk rfl ?_ (by repeat' (first | exact SLe.wo _ _ | exact SLe.refl _ | refine SLe.fresh rfl ?_)) (by first | exact MLe.none _ | exact MLe.refl _ | (repeat' (first | exact MLe.nil | exact MLe.refl _ | refine MLe.cons _ ?_ | refine MLe.drop _ ?_)))
        first | (simp_all; done) | (simp_all; omega)
    intro c33 h33
    refine go_code ?_
    rcases bool_split h33 with ⟨rfl, g33⟩ | ⟨rfl, g33⟩
    · refine c_cond_f rfl ?_
      refine c_skip ?_
      refine go_code ?_
      refine c_seq ?_
      exact absurd trivial g33
    · refine c_cond_t rfl ?_
      refine c_seq ?_
      refine c_region ?_
      refine AOps.st 6 rfl rfl rfl (op_assign rfl rfl ?_)
      refine AOps.st 7 rfl rfl rfl (op_assign rfl rfl ?_)
      refine AOps.nil ?_
      refine go_code ?_
      refine c_ret ?_
      exact out_tt rfl rfl rfl (Le.refl _) (by first | exact MLe.none _ | exact MLe.refl _ | (repeat' (first | exact MLe.nil | exact MLe.refl _ | refine MLe.cons _ ?_ | refine MLe.drop _ ?_))) ⟨rfl, rfl⟩
def partV (H : List HO) (w i : Int) : Option Int := match objOf H w with
  | some o => if 0 ≤ i then o.parts[i.toNat]? else none
  | none => none
def partR (H : List HO) (w i : Int) : AV := match partV H w i with
  | some x => .tup [.val (.int .u64 x), .val (.bool true)]
  | none => .tup [.val (.int .u64 0), .val (.bool false)]
set_option maxHeartbeats 4000000 in
set_option maxRecDepth 100000 in
theorem Part_c (b : Nat) (sz : Int) (H : List HO) (M : Mem) (hM : HeapAt b sz H M) (h : 0 < sz) (hH : ∀ o ∈ H, o.ok) (hu : used H ≤ 16777216) (w : Int) (h0 : 0 ≤ w) (h1 : w ≤ 18446744073709551615) (i : Int) : KCall Try.prog 23 [.ptr b 0, .val (.int .u64 w), .val (.int .i64 i)] M (partR H w i) := by
  have hM0 := hM
  obtain ⟨now, gw, cw, gb, cb, x, y, rfl⟩ := hM
  unfold partR
  cases hp : partV H w i with
  | none =>
    have hN := place_none b sz H h hH hu w h0 h1 i (fun o ho q => by
      unfold partV at hp
      rw [ho] at hp
      simp only [q.1, if_true] at hp
      rw [List.getElem?_eq_none_iff] at hp
      omega) _ hM0
    refine ACall.enter Try.func23 rfl (by kernel_rfl) rfl (Nat.le_of_ble_eq_true rfl) ?_
    refine c_start ?_
    refine c_seq ?_
    refine c_region ?_
    refine AOps.st 6 rfl rfl rfl (op_assign rfl rfl ?_)
    refine AOps.st 7 rfl rfl rfl (op_assign rfl rfl ?_)
    refine AOps.nil ?_
    refine go_code ?_
    refine c_seq ?_
    refine c_region ?_
    refine AOps.st 11 rfl rfl rfl (op_move rfl rfl ?_)
    refine AOps.st 12 rfl rfl rfl (op_move rfl rfl ?_)
    refine AOps.st 13 rfl rfl rfl (op_move rfl rfl ?_)
    refine AOps.st 14 rfl rfl rfl (op_callk (xs := [.tmp 11, .tmp 12, .tmp 13]) [0,0,0] rfl rfl rfl (hN) (by first | exact Les.refl _ | (repeat' (first | exact Les.refl _ | refine Les.cons ?_ ?_ | exact Le.refl _ | exact Le.own _ _ _ | exact Le.nil _ | refine Le.agg ?_))) ?_)
    refine AOps.st 10 rfl rfl rfl (op_move rfl rfl ?_)
    refine AOps.st 15 rfl rfl rfl (op_extract rfl rfl rfl ?_)
    refine AOps.st 16 rfl rfl rfl (op_extract rfl rfl rfl ?_)
    refine AOps.st 8 rfl rfl rfl (op_assign rfl rfl ?_)
    refine AOps.st 9 rfl rfl rfl (op_assign rfl rfl ?_)
    refine AOps.nil ?_
    refine go_code ?_
    refine c_seq ?_
    refine c_seq ?_
    refine c_region ?_
    refine AOps.st 17 rfl rfl rfl (op_move rfl rfl ?_)
    refine AOps.st 18 rfl rfl rfl (op_notc rfl rfl ?_); intro c18 h18
    try replace h18 := nott h18 h16
    refine AOps.nil ?_
    refine go_code ?_
    rcases bool_split h18 with ⟨rfl, g18⟩ | ⟨rfl, g18⟩
    · refine c_cond_f rfl ?_
      refine c_skip ?_
      refine go_code ?_
      refine c_seq ?_
      exact absurd g18 (by simp)
    · refine c_cond_t rfl ?_
      refine c_seq ?_
      refine c_region ?_
      refine AOps.st 6 rfl rfl rfl (op_assign rfl rfl ?_)
      refine AOps.st 7 rfl rfl rfl (op_assign rfl rfl ?_)
      refine AOps.nil ?_
      refine go_code ?_
      refine c_ret ?_
      exact out_tt rfl rfl rfl (Le.refl _) (by first | exact MLe.none _ | exact MLe.refl _ | (repeat' (first | exact MLe.nil | exact MLe.refl _ | refine MLe.cons _ ?_ | refine MLe.drop _ ?_))) ⟨rfl, rfl⟩
  | some z =>
    unfold partV at hp
    cases ho : objOf H w with
    | none => rw [ho] at hp; cases hp
    | some o =>
      rw [ho] at hp
      simp only at hp
      split at hp
      · rename_i hi
        obtain ⟨k, rfl⟩ := Int.eq_ofNat_of_zero_le hi
        rw [Int.toNat_natCast] at hp
        have hk := get_lt hp
        obtain ⟨a, ha, _, _, ha2, _, hwi⟩ := at_some hu ho
        have hN := place_some now b gw cw gb cb x y sz H h hH hu w h0 h1 o ho a ha k hk _ rfl
        have hx : ((hw H).map iv)[a + 1 + k]? = some [.val (.int .u64 z)] := by rw [List.getElem?_map, hwi k hk, hp]; rfl
        generalize (hw H).map iv = EW at *
        refine ACall.enter Try.func23 rfl (by kernel_rfl) rfl (Nat.le_of_ble_eq_true rfl) ?_
        refine c_start ?_
        refine c_seq ?_
        refine c_region ?_
        refine AOps.st 6 rfl rfl rfl (op_assign rfl rfl ?_)
        refine AOps.st 7 rfl rfl rfl (op_assign rfl rfl ?_)
        refine AOps.nil ?_
        refine go_code ?_
        refine c_seq ?_
        refine c_region ?_
        refine AOps.st 11 rfl rfl rfl (op_move rfl rfl ?_)
        refine AOps.st 12 rfl rfl rfl (op_move rfl rfl ?_)
        refine AOps.st 13 rfl rfl rfl (op_move rfl rfl ?_)
        refine AOps.st 14 rfl rfl rfl (op_callk (xs := [.tmp 11, .tmp 12, .tmp 13]) [0,0,0] rfl rfl rfl (hN) (by first | exact Les.refl _ | (repeat' (first | exact Les.refl _ | refine Les.cons ?_ ?_ | exact Le.refl _ | exact Le.own _ _ _ | exact Le.nil _ | refine Le.agg ?_))) ?_)
        refine AOps.st 10 rfl rfl rfl (op_move rfl rfl ?_)
        refine AOps.st 15 rfl rfl rfl (op_extract rfl rfl rfl ?_)
        refine AOps.st 16 rfl rfl rfl (op_extract rfl rfl rfl ?_)
        refine AOps.st 8 rfl rfl rfl (op_assign rfl rfl ?_)
        refine AOps.st 9 rfl rfl rfl (op_assign rfl rfl ?_)
        refine AOps.nil ?_
        refine go_code ?_
        refine c_seq ?_
        refine c_seq ?_
        refine c_region ?_
        refine AOps.st 17 rfl rfl rfl (op_move rfl rfl ?_)
        refine AOps.st 18 rfl rfl rfl (op_notc rfl rfl ?_); intro c18 h18
        try replace h18 := nott h18 h16
        refine AOps.nil ?_
        refine go_code ?_
        rcases bool_split h18 with ⟨rfl, g18⟩ | ⟨rfl, g18⟩
        · refine c_cond_f rfl ?_
          refine c_skip ?_
          refine go_code ?_
          refine c_seq ?_
          refine c_region ?_
          refine AOps.st 19 rfl rfl rfl (op_move rfl rfl ?_)
          first | (refine AOps.st 20 rfl rfl rfl (op_nilCheck_m rfl rfl ?_)) | (refine AOps.st 20 rfl rfl rfl (op_nilCheck_c rfl rfl ?_)) | (refine AOps.st 20 rfl rfl rfl (op_nilCheck_f rfl rfl ?_))
          refine AOps.st 21 rfl rfl rfl (op_load_row1 (i := 1) (k := a + 1 + k) (f := 0) rfl ta_42 rfl rfl rfl (hx) rfl ?_)
          refine AOps.st 6 rfl rfl rfl (op_assign rfl rfl ?_)
          refine AOps.st 7 rfl rfl rfl (op_assign rfl rfl ?_)
          refine AOps.nil ?_
          refine go_code ?_
          refine c_ret ?_
          exact out_tt rfl rfl rfl (Le.refl _) (by first | exact MLe.none _ | exact MLe.refl _ | (repeat' (first | exact MLe.nil | exact MLe.refl _ | refine MLe.cons _ ?_ | refine MLe.drop _ ?_))) ⟨rfl, rfl⟩
        · refine c_cond_t rfl ?_
          refine c_seq ?_
          exact absurd g18 (by simp)
      · cases hp
end Go.Proofs.Ytecpnlhjjmcllaa
