/- Walks of layer 2: word.Int, IsInt, ToInt, Ptr, At, Head, Open, and the reference's. -/
import Derived.Test.YthibocdpbekbcaaW01
import Derived.Test.YthibocdpbekbcaaP02
namespace Go.Proofs.Ythibocdpbekbcaa
open Go.RowKit
theorem ret_ib {k : IntKind} {a b : Int} {x y : Bool} (h : a = b) (h' : x = y) : Ending.returned (.tuple #[.int k a, .bool x]) = .returned (.tuple #[.int k b, .bool y]) := by rw [h, h']
theorem ret_iiib {k l m : IntKind} {a b c d e f : Int} {x y : Bool} (h : a = b) (h' : c = d) (h'' : e = f) (h3 : x = y) : Ending.returned (.tuple #[.int k a, .int l c, .int m e, .bool x]) = .returned (.tuple #[.int k b, .int l d, .int m f, .bool y]) := by rw [h, h', h'', h3]
set_option maxHeartbeats 400000 in
theorem wInt_c (n : Int) (w : World) : Calls Try.prog 18 #[.int .i64 n] w fun e w' => e = .returned (.int .u64 (intW n)) ∧ w = w' := by
  go_enter Try.func18, Try.ntmps18
  go_wp2_with (go_at_call 46; refine (Wrap_c _ _).mono ?_; rintro e w' ⟨rfl, rfl⟩)
  go_ret
  exact ⟨ret_int (intW_shift n), rfl⟩
set_option maxHeartbeats 400000 in
theorem rInt_c (n : Int) (w : World) : Calls Try.prog 19 #[.int .i64 n] w fun e w' => e = .returned (.int .u64 (intW n)) ∧ w = w' := by
  have a1 := R63_lo n
  have a2 := R63_hi n
  go_enter Try.func19, Try.ntmps19
  go_wp2_with (go_at_call 60; refine (Mod_c _ _).mono ?_; rintro e w' ⟨rfl, rfl⟩)
  go_ret
  exact ⟨rfl, rfl⟩
set_option maxHeartbeats 400000 in
theorem IsInt_c (w0 : Int) (w : World) (h1 : 0 ≤ w0) (h2 : w0 ≤ 18446744073709551615) : Calls Try.prog 20 #[.int .u64 w0] w fun e w' => e = .returned (.bool (isI w0)) ∧ w = w' := by
  have hm := and_mask 1 w0 1 h1 (by omega) rfl (by omega)
  have hm : bits .and .u64 w0 1 = w0 % 2 := hm
  go_enter Try.func20, Try.ntmps20
  go_wp2
  go_ret
  exact ⟨rfl, rfl⟩
set_option maxHeartbeats 400000 in
theorem ToInt_c (w0 : Int) (w : World) (h1 : 0 ≤ w0) (h2 : w0 ≤ 18446744073709551615) : Calls Try.prog 16 #[.int .u64 w0] w fun e w' => e = .returned (.tuple #[.int .i64 (toI w0), .bool (isI w0)]) ∧ w = w' := by
  by_cases ho : w0 % 2 = 1
  · have hi : isI w0 = true := by unfold isI; simp [ho]
    go_enter Try.func16, Try.ntmps16
    go_wp2_with (go_at_call 20; refine (IsInt_c _ _ h1 h2).mono ?_; rintro e w' ⟨rfl, rfl⟩)
    go_ret2
    exact ⟨ret_ib (by unfold toI W63; rw [if_pos ho]; unfold wrap64; omega) (by first | rfl | exact hi.symm), rfl⟩
  · have hi : isI w0 = false := by unfold isI; simp [ho]
    go_enter Try.func16, Try.ntmps16
    go_wp2_with (go_at_call 20; refine (IsInt_c _ _ h1 h2).mono ?_; rintro e w' ⟨rfl, rfl⟩)
    go_ret2
    exact ⟨ret_ib (by unfold toI; rw [if_neg ho]) (by first | rfl | exact hi.symm), rfl⟩
set_option maxHeartbeats 400000 in
theorem rToInt_c (w0 : Int) (w : World) (h1 : 0 ≤ w0) (h2 : w0 ≤ 18446744073709551615) : Calls Try.prog 17 #[.int .u64 w0] w fun e w' => e = .returned (.tuple #[.int .i64 (toI w0), .bool (isI w0)]) ∧ w = w' := by
  by_cases ho : w0 % 2 = 1
  · go_enter Try.func17, Try.ntmps17
    go_wp2_with (go_at_call 59; refine (Mean_c _ _ (by omega) (by omega)).mono ?_; rintro e w' ⟨rfl, rfl⟩)
    go_ret2
    exact ⟨ret_ib (by unfold toI; rw [if_pos ho]) (by unfold isI; simp [ho]), rfl⟩
  · have hz : w0 % 2 = 0 := by omega
    go_enter Try.func17, Try.ntmps17
    go_wp2_with fail
    go_ret2
    exact ⟨ret_ib (by unfold toI; rw [if_neg ho]) (by unfold isI; simp [hz]), rfl⟩
set_option maxHeartbeats 400000 in
theorem Ptr_c (a : Int) (w : World) (h1 : -9223372036854775808 ≤ a) (h2 : a ≤ 9223372036854775807) : Calls Try.prog 21 #[.int .i64 a] w fun e w' => e = .returned (.tuple #[.int .u64 (ptrW a), .int .i64 (okE (ptrOk a))]) ∧ w = w' := by
  by_cases ha : a < 0
  · have ho : ptrOk a = false := by unfold ptrOk; simp; omega
    go_enter Try.func21, Try.ntmps21
    go_wp2
    go_ret2
    exact ⟨ret_ii (by unfold ptrW; rw [ho]; rfl) (by first | rfl | (rw [ho]; rfl)), rfl⟩
  · by_cases hb : 4294967296 < a
    · have ho : ptrOk a = false := by unfold ptrOk; simp; omega
      go_enter Try.func21, Try.ntmps21
      go_wp2
      go_ret2
      exact ⟨ret_ii (by unfold ptrW; rw [ho]; rfl) (by first | rfl | (rw [ho]; rfl)), rfl⟩
    · have ho : ptrOk a = true := by unfold ptrOk; simp; omega
      go_enter Try.func21, Try.ntmps21
      go_wp2
      go_ret2
      exact ⟨ret_ii (by unfold ptrW; rw [if_pos ho]; omega) (by first | rfl | (rw [ho]; rfl)), rfl⟩
set_option maxHeartbeats 400000 in
theorem rPtr_c (a : Int) (w : World) (h1 : -9223372036854775808 ≤ a) (h2 : a ≤ 9223372036854775807) : Calls Try.prog 22 #[.int .i64 a] w fun e w' => e = .returned (.tuple #[.int .u64 (ptrW a), .bool (ptrOk a)]) ∧ w = w' := by
  by_cases ha : a < 0
  · have ho : ptrOk a = false := by unfold ptrOk; simp; omega
    go_enter Try.func22, Try.ntmps22
    go_wp2
    go_ret2
    exact ⟨ret_ib (by unfold ptrW; rw [ho]; rfl) (by first | rfl | rw [ho]), rfl⟩
  · by_cases hb : 4294967296 < a
    · have ho : ptrOk a = false := by unfold ptrOk; simp; omega
      go_enter Try.func22, Try.ntmps22
      go_wp2
      go_ret2
      exact ⟨ret_ib (by unfold ptrW; rw [ho]; rfl) (by first | rfl | rw [ho]), rfl⟩
    · have ho : ptrOk a = true := by unfold ptrOk; simp; omega
      go_enter Try.func22, Try.ntmps22
      go_wp2
      go_ret2
      exact ⟨ret_ib (by unfold ptrW; rw [if_pos ho]) (by first | rfl | rw [ho]), rfl⟩
set_option maxHeartbeats 400000 in
theorem At_c (w0 : Int) (w : World) (h1 : 0 ≤ w0) (h2 : w0 ≤ 18446744073709551615) : Calls Try.prog 23 #[.int .u64 w0] w fun e w' => e = .returned (.tuple #[.int .i64 (atV w0), .bool (atOk w0)]) ∧ w = w' := by
  by_cases ho : w0 % 2 = 1
  · have hi : isI w0 = true := by unfold isI; simp [ho]
    have ho : atOk w0 = false := by unfold atOk; simp; omega
    go_enter Try.func23, Try.ntmps23
    go_wp2_with (go_at_call 20; refine (IsInt_c _ _ h1 h2).mono ?_; rintro e w' ⟨rfl, rfl⟩)
    go_ret2
    exact ⟨ret_ib (by unfold atV; rw [ho]; rfl) (by first | rfl | rw [ho]), rfl⟩
  · have hi : isI w0 = false := by unfold isI; simp [ho]
    by_cases hb : 4294967296 < w0 / 2
    · have ho : atOk w0 = false := by unfold atOk; simp; omega
      go_enter Try.func23, Try.ntmps23
      go_wp2_with (go_at_call 20; refine (IsInt_c _ _ h1 h2).mono ?_; rintro e w' ⟨rfl, rfl⟩)
      go_ret2
      exact ⟨ret_ib (by unfold atV; rw [ho]; rfl) (by first | rfl | rw [ho]), rfl⟩
    · have ho : atOk w0 = true := by unfold atOk; simp; omega
      go_enter Try.func23, Try.ntmps23
      go_wp2_with (go_at_call 20; refine (IsInt_c _ _ h1 h2).mono ?_; rintro e w' ⟨rfl, rfl⟩)
      go_ret2
      exact ⟨ret_ib (by unfold atV; rw [if_pos ho]) (by first | rfl | rw [ho]), rfl⟩
set_option maxHeartbeats 400000 in
theorem rAt_c (w0 : Int) (w : World) (h1 : 0 ≤ w0) (h2 : w0 ≤ 18446744073709551615) : Calls Try.prog 24 #[.int .u64 w0] w fun e w' => e = .returned (.tuple #[.int .i64 (atV w0), .bool (atOk w0)]) ∧ w = w' := by
  by_cases hi : w0 % 2 = 1
  · have ho : atOk w0 = false := by unfold atOk; simp; omega
    go_enter Try.func24, Try.ntmps24
    go_wp2
    go_ret2
    exact ⟨ret_ib (by unfold atV; rw [ho]; rfl) (by first | rfl | rw [ho]), rfl⟩
  · by_cases hb : 8589934592 < w0
    · have ho : atOk w0 = false := by unfold atOk; simp; omega
      go_enter Try.func24, Try.ntmps24
      go_wp2
      go_ret2
      exact ⟨ret_ib (by unfold atV; rw [ho]; rfl) (by first | rfl | rw [ho]), rfl⟩
    · have ho : atOk w0 = true := by unfold atOk; simp; omega
      go_enter Try.func24, Try.ntmps24
      go_wp2
      go_ret2
      exact ⟨ret_ib (by unfold atV; rw [if_pos ho]) (by first | rfl | rw [ho]), rfl⟩
end Go.Proofs.Ythibocdpbekbcaa
