/- Walks of layer 1: int63.Wrap, Add, Sub, Mul, Quo, Rem, Cmp and the reference's Mod, Mean, Wrap, Add, Sub, Mul, size, Signed, Quo. -/
import Derived.Test.YtflkdojahfmbnaaProg
import Derived.Test.YtflkdojahfmbnaaP01
import Derived.WalkKit
import Derived.WalkSpells
import Derived.WalkLawsBesides
import Derived.Lib.Hide
namespace Go.Proofs.Ytflkdojahfmbnaa
open Go.RowKit
theorem ret_int {k : IntKind} {a b : Int} (h : a = b) : Ending.returned (.int k a) = .returned (.int k b) := by rw [h]
theorem ret_ii {k l : IntKind} {a b c d : Int} (h : a = b) (h' : c = d) : Ending.returned (.tuple #[.int k a, .int l c]) = .returned (.tuple #[.int k b, .int l d]) := by rw [h, h']
theorem ret_bool {a b : Bool} (h : a = b) : Ending.returned (.bool a) = .returned (.bool b) := by rw [h]
set_option maxHeartbeats 400000 in
theorem Wrap_c (n : Int) (w : World) : Calls Try.prog 22 #[.int .i64 n] w fun e w' => e = .returned (.int .i64 (W63 n)) ∧ w = w' := by
  go_enter Try.func22, Try.ntmps22
  go_wp2
  go_ret
  exact ⟨ret_int (W63_shift n), rfl⟩
set_option maxHeartbeats 400000 in
theorem Add_c (a b : Int) (w : World) : Calls Try.prog 8 #[.int .i64 a, .int .i64 b] w fun e w' => e = .returned (.int .i64 (W63 (a + b))) ∧ w = w' := by
  go_enter Try.func8, Try.ntmps8
  go_wp2_with (go_at_call 22; refine (Wrap_c _ _).mono ?_; rintro e w' ⟨rfl, rfl⟩)
  go_ret
  exact ⟨ret_int (W63_wrap _), rfl⟩
set_option maxHeartbeats 400000 in
theorem Sub_c (a b : Int) (w : World) : Calls Try.prog 9 #[.int .i64 a, .int .i64 b] w fun e w' => e = .returned (.int .i64 (W63 (a - b))) ∧ w = w' := by
  go_enter Try.func9, Try.ntmps9
  go_wp2_with (go_at_call 22; refine (Wrap_c _ _).mono ?_; rintro e w' ⟨rfl, rfl⟩)
  go_ret
  exact ⟨ret_int (W63_wrap _), rfl⟩
set_option maxHeartbeats 400000 in
theorem Mul_c (a b : Int) (w : World) : Calls Try.prog 10 #[.int .i64 a, .int .i64 b] w fun e w' => e = .returned (.int .i64 (W63 (a * b))) ∧ w = w' := by
  go_enter Try.func10, Try.ntmps10
  go_wp2_with (go_at_call 22; refine (Wrap_c _ _).mono ?_; rintro e w' ⟨rfl, rfl⟩)
  go_ret
  exact ⟨ret_int (W63_wrap _), rfl⟩
set_option maxHeartbeats 400000 in
theorem Quo_zero (a b : Int) (w : World) (h : W63 b = 0) : Calls Try.prog 11 #[.int .i64 a, .int .i64 b] w fun e w' => e = .returned (.tuple #[.int .i64 0, .int .i64 4]) ∧ w = w' := by
  have h1 : (W63 b == 0) = true := by simp [h]
  clear h
  go_enter Try.func11, Try.ntmps11
  go_wp2_with (go_at_call 22; refine (Wrap_c _ _).mono ?_; rintro e w' ⟨rfl, rfl⟩)
  go_ret2
  exact ⟨rfl, rfl⟩
set_option maxHeartbeats 400000 in
theorem Quo_some (a b : Int) (w : World) (h : W63 b ≠ 0) : Calls Try.prog 11 #[.int .i64 a, .int .i64 b] w fun e w' => e = .returned (.tuple #[.int .i64 (W63 ((W63 a).tdiv (W63 b))), .int .i64 0]) ∧ w = w' := by
  have h1 : (W63 b == 0) = false := by simp [h]
  go_enter Try.func11, Try.ntmps11
  go_wp2_with (go_at_call 22; refine (Wrap_c _ _).mono ?_; rintro e w' ⟨rfl, rfl⟩)
  go_ret2
  exact ⟨ret_ii (W63_wrap _) rfl, rfl⟩
set_option maxHeartbeats 400000 in
theorem Rem_zero (a b : Int) (w : World) (h : W63 b = 0) : Calls Try.prog 12 #[.int .i64 a, .int .i64 b] w fun e w' => e = .returned (.tuple #[.int .i64 0, .int .i64 4]) ∧ w = w' := by
  have h1 : (W63 b == 0) = true := by simp [h]
  clear h
  go_enter Try.func12, Try.ntmps12
  go_wp2_with (go_at_call 22; refine (Wrap_c _ _).mono ?_; rintro e w' ⟨rfl, rfl⟩)
  go_ret2
  exact ⟨rfl, rfl⟩
set_option maxHeartbeats 400000 in
theorem Rem_some (a b : Int) (w : World) (h : W63 b ≠ 0) : Calls Try.prog 12 #[.int .i64 a, .int .i64 b] w fun e w' => e = .returned (.tuple #[.int .i64 ((W63 a).tmod (W63 b)), .int .i64 0]) ∧ w = w' := by
  have h1 : (W63 b == 0) = false := by simp [h]
  go_enter Try.func12, Try.ntmps12
  go_wp2_with (go_at_call 22; refine (Wrap_c _ _).mono ?_; rintro e w' ⟨rfl, rfl⟩)
  go_ret2
  exact ⟨rfl, rfl⟩
/-- what Cmp answers -/
def cmp3 (a b : Int) : Int := if a < b then -1 else if b < a then 1 else 0
set_option maxHeartbeats 400000 in
theorem Cmp_c (a b : Int) (w : World) : Calls Try.prog 13 #[.int .i64 a, .int .i64 b] w fun e w' => e = .returned (.int .i64 (cmp3 (W63 a) (W63 b))) ∧ w = w' := by
  go_enter Try.func13, Try.ntmps13
  go_wp2_with (go_at_call 22; refine (Wrap_c _ _).mono ?_; rintro e w' ⟨rfl, rfl⟩)
  all_goals go_ret
  all_goals exact ⟨ret_int (by unfold cmp3; omega), rfl⟩
set_option maxHeartbeats 400000 in
theorem Mod_c (n : Int) (w : World) : Calls Try.prog 26 #[.int .i64 n] w fun e w' => e = .returned (.int .u64 (R63 n)) ∧ w = w' := by
  go_enter Try.func26, Try.ntmps26
  go_wp2
  go_ret
  exact ⟨ret_int (R63_u64 n), rfl⟩
set_option maxHeartbeats 400000 in
theorem Mean_c (n : Int) (w : World) (h1 : 0 ≤ n) (h2 : n ≤ 9223372036854775807) : Calls Try.prog 25 #[.int .u64 n] w fun e w' => e = .returned (.int .i64 (W63 n)) ∧ w = w' := by
  go_enter Try.func25, Try.ntmps25
  go_wp2
  all_goals go_ret
  all_goals exact ⟨ret_int (by unfold W63; omega), rfl⟩
set_option maxHeartbeats 400000 in
theorem RWrap_c (n : Int) (w : World) : Calls Try.prog 15 #[.int .i64 n] w fun e w' => e = .returned (.int .i64 (W63 n)) ∧ w = w' := by
  go_enter Try.func15, Try.ntmps15
  go_wp2_with (first | (go_at_call 26; refine (Mod_c _ _).mono ?_; rintro e w' ⟨rfl, rfl⟩) | (go_at_call 25; refine (Mean_c _ _ (R63_lo _) (R63_hi _)).mono ?_; rintro e w' ⟨rfl, rfl⟩))
  go_ret
  exact ⟨ret_int (W63_R63 n), rfl⟩
set_option maxHeartbeats 400000 in
theorem RAdd_c (a b : Int) (w : World) : Calls Try.prog 16 #[.int .i64 a, .int .i64 b] w fun e w' => e = .returned (.int .i64 (W63 (a + b))) ∧ w = w' := by
  have a1 := R63_lo a
  have a2 := R63_hi a
  have b1 := R63_lo b
  have b2 := R63_hi b
  go_enter Try.func16, Try.ntmps16
  go_wp2_with (first | (go_at_call 26; refine (Mod_c _ _).mono ?_; rintro e w' ⟨rfl, rfl⟩) | (go_at_call 25; refine (Mean_c _ _ (by omega) (by omega)).mono ?_; rintro e w' ⟨rfl, rfl⟩))
  go_ret
  exact ⟨ret_int (W63_congr (by unfold R63; omega)), rfl⟩
set_option maxHeartbeats 400000 in
theorem RSub_c (a b : Int) (w : World) : Calls Try.prog 17 #[.int .i64 a, .int .i64 b] w fun e w' => e = .returned (.int .i64 (W63 (a - b))) ∧ w = w' := by
  have a1 := R63_lo a
  have a2 := R63_hi a
  have b1 := R63_lo b
  have b2 := R63_hi b
  go_enter Try.func17, Try.ntmps17
  go_wp2_with (first | (go_at_call 26; refine (Mod_c _ _).mono ?_; rintro e w' ⟨rfl, rfl⟩) | (go_at_call 25; refine (Mean_c _ _ (by omega) (by omega)).mono ?_; rintro e w' ⟨rfl, rfl⟩))
  go_ret
  exact ⟨ret_int (W63_congr (by unfold R63; omega)), rfl⟩
set_option maxHeartbeats 400000 in
theorem size_c (n : Int) (w : World) (h1 : -9223372036854775808 ≤ n) (h2 : n ≤ 9223372036854775807) : Calls Try.prog 24 #[.int .i64 n] w fun e w' => e = .returned (.int .u64 (absI n)) ∧ w = w' := by
  go_enter Try.func24, Try.ntmps24
  go_wp2
  all_goals go_ret
  all_goals exact ⟨ret_int (by unfold absI; omega), rfl⟩
set_option maxHeartbeats 400000 in
theorem Signed_c (u : Int) (neg : Bool) (w : World) (h1 : 0 ≤ u) (h2 : u ≤ 9223372036854775807) : Calls Try.prog 23 #[.int .u64 u, .bool neg] w fun e w' => e = .returned (.int .i64 (W63 (sgn u neg))) ∧ w = w' := by
  cases neg with
  | true =>
    go_enter Try.func23, Try.ntmps23
    go_wp2_with (go_at_call 17; refine (RSub_c _ _ _).mono ?_; rintro e w' ⟨rfl, rfl⟩)
    go_ret
    exact ⟨ret_int (W63_congr (by simp [sgn]; try omega)), rfl⟩
  | false =>
    go_enter Try.func23, Try.ntmps23
    go_wp2_with (go_at_call 15; refine (RWrap_c _ _).mono ?_; rintro e w' ⟨rfl, rfl⟩)
    go_ret
    exact ⟨ret_int (W63_congr (by simp [sgn]; try omega)), rfl⟩
set_option maxHeartbeats 400000 in
theorem RQuo_zero (a b : Int) (w : World) (h : W63 b = 0) : Calls Try.prog 14 #[.int .i64 a, .int .i64 b] w fun e w' => e = .returned (.tuple #[.int .i64 0, .int .i64 0, .bool false]) ∧ w = w' := by
  have h1 : (W63 b == 0) = true := by simp [h]
  clear h
  go_enter Try.func14, Try.ntmps14
  go_wp2_with (go_at_call 15; refine (RWrap_c _ _).mono ?_; rintro e w' ⟨rfl, rfl⟩)
  go_ret3
  exact ⟨rfl, rfl⟩
theorem ret_iib {k l : IntKind} {a b c d : Int} {x : Bool} (h : a = b) (h' : c = d) : Ending.returned (.tuple #[.int k a, .int l c, .bool x]) = .returned (.tuple #[.int k b, .int l d, .bool x]) := by rw [h, h']
set_option maxHeartbeats 400000 in
theorem RQuo_some (a b : Int) (w : World) (h : W63 b ≠ 0) : Calls Try.prog 14 #[.int .i64 a, .int .i64 b] w fun e w' => e = .returned (.tuple #[.int .i64 (W63 ((W63 a).tdiv (W63 b))), .int .i64 ((W63 a).tmod (W63 b)), .bool true]) ∧ w = w' := by
  have h1 : (W63 b == 0) = false := by simp [h]
  have a1 := W63_lo a
  have a2 := W63_hi a
  have b1 := W63_lo b
  have b2 := W63_hi b
  have a3 := absI_lo (W63 a)
  have b3 := absI_pos h
  have a4 := absI_W63 a
  have b4 := absI_W63 b
  have q1 := quo_lo (W63 a) _ b3
  have q2 := quo_le (W63 a) (absI (W63 b))
  have r1 := rem_lo (W63 a) _ b3
  have r2 := rem_le (W63 a) _ b3
  go_enter Try.func14, Try.ntmps14
  go_wp2_with (first | (go_at_call 15; refine (RWrap_c _ _).mono ?_; rintro e w' ⟨rfl, rfl⟩) | (go_at_call 24; refine (size_c _ _ (by omega) (by omega)).mono ?_; rintro e w' ⟨rfl, rfl⟩) | (go_at_call 23; refine (Signed_c _ _ _ (by omega) (by omega)).mono ?_; rintro e w' ⟨rfl, rfl⟩))
  go_ret3
  exact ⟨ret_iib (congrArg W63 (sgn_quo _ _)) (W63_sgn_rem _ _ h a4 a2), rfl⟩
set_option maxHeartbeats 400000 in
theorem RMul_c (a b : Int) (w : World) : Calls Try.prog 18 #[.int .i64 a, .int .i64 b] w fun e w' => e = .returned (.int .i64 (W63 (a * b))) ∧ w = w' := by
  have a1 := R63_lo a
  have a2 := R63_hi a
  have b1 := R63_lo b
  have b2 := R63_hi b
  go_enter Try.func18, Try.ntmps18
  go_wp2_with (first | (go_at_call 26; refine (Mod_c _ _).mono ?_; rintro e w' ⟨rfl, rfl⟩))
  go_loop [5, 6, 7] (fun vx vy vs => ∃ x y s : Int, 0 ≤ x ∧ x ≤ 9223372036854775807 ∧ 0 ≤ y ∧ y ≤ 9223372036854775807 ∧ 0 ≤ s ∧ s ≤ 9223372036854775807 ∧ W63 (s + x * y) = W63 (a * b) ∧ vx = .int .u64 x ∧ vy = .int .u64 y ∧ vs = .int .u64 s) (fun _ y _ => (intOf y).toNat)
  case atStart => exact ⟨R63 a, R63 b, 0, a1, a2, b1, b2, by omega, by omega, mul_start a b, rfl, rfl, rfl⟩
  case round =>
    obtain ⟨x, y, s, x1, x2, y1, y2, s1, s2, hinv, rfl, rfl, rfl⟩ := hrel
    have Hinv := Lib.hid hinv
    clear hinv
    go_wp2_with (go_at_call 25; refine (Mean_c _ _ (by omega) (by omega)).mono ?_; rintro e w' ⟨rfl, rfl⟩)
    · have ho : (y % 2 == 1) = true := by assumption
      have ho' : y % 2 = 1 := by simpa using ho
      go_round
      case rel => exact ⟨_, _, _, by omega, by omega, by omega, by omega, by omega, by omega, (mul_odd x y s ho').trans Hinv.out, rfl, rfl, rfl⟩
      case measure => simp [intOf]; omega
    · have ho : (y % 2 == 1) = false := by assumption
      have ho' : y % 2 = 0 := by simp at ho; omega
      go_round
      case rel => exact ⟨_, _, _, by omega, by omega, by omega, by omega, by omega, by omega, (mul_even x y s ho').trans Hinv.out, rfl, rfl, rfl⟩
      case measure => simp [intOf]; omega
    · go_ret
      have h0 : y ≤ 0 := by assumption
      have h1 : y = 0 := by omega
      exact ⟨ret_int (by rw [← Hinv.out, h1, Int.mul_zero, Int.add_zero]), rfl⟩
end Go.Proofs.Ytflkdojahfmbnaa
