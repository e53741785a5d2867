/- Walks of layer 2: word.Int, IsInt, ToInt, Ptr, At, Head, Open, and the reference's. -/
import Derived.Test.YtecpnlhjjmcllaaW01
import Derived.Test.YtecpnlhjjmcllaaP02
namespace Go.Proofs.Ytecpnlhjjmcllaa
open Go.RowKit
theorem ret_ib {k : IntKind} {a b : Int} {x y : Bool} (h : a = b) (h' : x = y) : Ending.returned (.tuple #[.int k a, .bool x]) = .returned (.tuple #[.int k b, .bool y]) := by rw [h, h']
theorem ret_iiib {k l m : IntKind} {a b c d e f : Int} {x y : Bool} (h : a = b) (h' : c = d) (h'' : e = f) (h3 : x = y) : Ending.returned (.tuple #[.int k a, .int l c, .int m e, .bool x]) = .returned (.tuple #[.int k b, .int l d, .int m f, .bool y]) := by rw [h, h', h'', h3]
set_option maxHeartbeats 400000 in
theorem wInt_c (n : Int) (w : World) : Calls Try.prog 57 #[.int .i64 n] w fun e w' => e = .returned (.int .u64 (intW n)) ∧ w = w' := by
  go_enter Try.func57, Try.ntmps57
  go_wp2_with (go_at_call 66; refine (Wrap_c _ _).mono ?_; rintro e w' ⟨rfl, rfl⟩)
  go_ret
  exact ⟨ret_int (intW_shift n), rfl⟩
set_option maxHeartbeats 400000 in
theorem rInt_c (n : Int) (w : World) : Calls Try.prog 53 #[.int .i64 n] w fun e w' => e = .returned (.int .u64 (intW n)) ∧ w = w' := by
  have a1 := R63_lo n
  have a2 := R63_hi n
  go_enter Try.func53, Try.ntmps53
  go_wp2_with (go_at_call 64; refine (Mod_c _ _).mono ?_; rintro e w' ⟨rfl, rfl⟩)
  go_ret
  exact ⟨rfl, rfl⟩
set_option maxHeartbeats 400000 in
theorem IsInt_c (w0 : Int) (w : World) (h1 : 0 ≤ w0) (h2 : w0 ≤ 18446744073709551615) : Calls Try.prog 62 #[.int .u64 w0] w fun e w' => e = .returned (.bool (isI w0)) ∧ w = w' := by
  have hm := and_mask 1 w0 1 h1 (by omega) rfl (by omega)
  have hm : bits .and .u64 w0 1 = w0 % 2 := hm
  go_enter Try.func62, Try.ntmps62
  go_wp2
  go_ret
  exact ⟨rfl, rfl⟩
set_option maxHeartbeats 400000 in
theorem ToInt_c (w0 : Int) (w : World) (h1 : 0 ≤ w0) (h2 : w0 ≤ 18446744073709551615) : Calls Try.prog 63 #[.int .u64 w0] w fun e w' => e = .returned (.tuple #[.int .i64 (toI w0), .bool (isI w0)]) ∧ w = w' := by
  by_cases ho : w0 % 2 = 1
  · have hi : isI w0 = true := by unfold isI; simp [ho]
    go_enter Try.func63, Try.ntmps63
    go_wp2_with (go_at_call 62; refine (IsInt_c _ _ h1 h2).mono ?_; rintro e w' ⟨rfl, rfl⟩)
    go_ret2
    exact ⟨ret_ib (by unfold toI W63; rw [if_pos ho]; unfold wrap64; omega) (by first | rfl | exact hi.symm), rfl⟩
  · have hi : isI w0 = false := by unfold isI; simp [ho]
    go_enter Try.func63, Try.ntmps63
    go_wp2_with (go_at_call 62; refine (IsInt_c _ _ h1 h2).mono ?_; rintro e w' ⟨rfl, rfl⟩)
    go_ret2
    exact ⟨ret_ib (by unfold toI; rw [if_neg ho]) (by first | rfl | exact hi.symm), rfl⟩
set_option maxHeartbeats 400000 in
theorem Ptr_c (a : Int) (w : World) (h1 : -9223372036854775808 ≤ a) (h2 : a ≤ 9223372036854775807) : Calls Try.prog 48 #[.int .i64 a] w fun e w' => e = .returned (.tuple #[.int .u64 (ptrW a), .int .i64 (okE (ptrOk a))]) ∧ w = w' := by
  by_cases ha : a < 0
  · have ho : ptrOk a = false := by unfold ptrOk; simp; omega
    go_enter Try.func48, Try.ntmps48
    go_wp2
    go_ret2
    exact ⟨ret_ii (by unfold ptrW; rw [ho]; rfl) (by first | rfl | (rw [ho]; rfl)), rfl⟩
  · by_cases hb : 4294967296 < a
    · have ho : ptrOk a = false := by unfold ptrOk; simp; omega
      go_enter Try.func48, Try.ntmps48
      go_wp2
      go_ret2
      exact ⟨ret_ii (by unfold ptrW; rw [ho]; rfl) (by first | rfl | (rw [ho]; rfl)), rfl⟩
    · have ho : ptrOk a = true := by unfold ptrOk; simp; omega
      go_enter Try.func48, Try.ntmps48
      go_wp2
      go_ret2
      exact ⟨ret_ii (by unfold ptrW; rw [if_pos ho]; omega) (by first | rfl | (rw [ho]; rfl)), rfl⟩
set_option maxHeartbeats 400000 in
theorem At_c (w0 : Int) (w : World) (h1 : 0 ≤ w0) (h2 : w0 ≤ 18446744073709551615) : Calls Try.prog 61 #[.int .u64 w0] w fun e w' => e = .returned (.tuple #[.int .i64 (atV w0), .bool (atOk w0)]) ∧ w = w' := by
  by_cases ho : w0 % 2 = 1
  · have hi : isI w0 = true := by unfold isI; simp [ho]
    have ho : atOk w0 = false := by unfold atOk; simp; omega
    go_enter Try.func61, Try.ntmps61
    go_wp2_with (go_at_call 62; refine (IsInt_c _ _ h1 h2).mono ?_; rintro e w' ⟨rfl, rfl⟩)
    go_ret2
    exact ⟨ret_ib (by unfold atV; rw [ho]; rfl) (by first | rfl | rw [ho]), rfl⟩
  · have hi : isI w0 = false := by unfold isI; simp [ho]
    by_cases hb : 4294967296 < w0 / 2
    · have ho : atOk w0 = false := by unfold atOk; simp; omega
      go_enter Try.func61, Try.ntmps61
      go_wp2_with (go_at_call 62; refine (IsInt_c _ _ h1 h2).mono ?_; rintro e w' ⟨rfl, rfl⟩)
      go_ret2
      exact ⟨ret_ib (by unfold atV; rw [ho]; rfl) (by first | rfl | rw [ho]), rfl⟩
    · have ho : atOk w0 = true := by unfold atOk; simp; omega
      go_enter Try.func61, Try.ntmps61
      go_wp2_with (go_at_call 62; refine (IsInt_c _ _ h1 h2).mono ?_; rintro e w' ⟨rfl, rfl⟩)
      go_ret2
      exact ⟨ret_ib (by unfold atV; rw [if_pos ho]) (by first | rfl | rw [ho]), rfl⟩
end Go.Proofs.Ytecpnlhjjmcllaa
