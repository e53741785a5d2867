/- Walks of layer 2: word.Head, Open, and the reference's. -/
import Derived.Test.YtecpnlhjjmcllaaW02
namespace Go.Proofs.Ytecpnlhjjmcllaa
open Go.RowKit
set_option maxHeartbeats 1000000 in
theorem Head_c (k t s : Int) (w : World) (k1 : -9223372036854775808 ≤ k) (k2 : k ≤ 9223372036854775807) (t1 : -9223372036854775808 ≤ t) (t2 : t ≤ 9223372036854775807) (s1 : -9223372036854775808 ≤ s) (s2 : s ≤ 9223372036854775807) : Calls Try.prog 47 #[.int .i64 k, .int .i64 t, .int .i64 s] w fun e w' => e = .returned (.tuple #[.int .u64 (headW k t s), .int .i64 (okE (headOk k t s))]) ∧ w = w' := by
  by_cases c0 : k < 0
  · have ho : headOk k t s = false := by unfold headOk; simp; omega
    have hw : headW k t s = 0 := by unfold headW; rw [ho]; rfl
    rw [ho, hw]
    clear ho hw
    go_enter Try.func47, Try.ntmps47
    go_wp2
    go_ret2
    exact ⟨rfl, rfl⟩
  by_cases c1 : 3 < k
  · have ho : headOk k t s = false := by unfold headOk; simp; omega
    have hw : headW k t s = 0 := by unfold headW; rw [ho]; rfl
    rw [ho, hw]
    clear ho hw
    go_enter Try.func47, Try.ntmps47
    go_wp2
    go_ret2
    exact ⟨rfl, rfl⟩
  by_cases c2 : t < 0
  · have ho : headOk k t s = false := by unfold headOk; simp; omega
    have hw : headW k t s = 0 := by unfold headW; rw [ho]; rfl
    rw [ho, hw]
    clear ho hw
    go_enter Try.func47, Try.ntmps47
    go_wp2
    go_ret2
    exact ⟨rfl, rfl⟩
  by_cases c3 : 65535 < t
  · have ho : headOk k t s = false := by unfold headOk; simp; omega
    have hw : headW k t s = 0 := by unfold headW; rw [ho]; rfl
    rw [ho, hw]
    clear ho hw
    go_enter Try.func47, Try.ntmps47
    go_wp2
    go_ret2
    exact ⟨rfl, rfl⟩
  by_cases c4 : s < 0
  · have ho : headOk k t s = false := by unfold headOk; simp; omega
    have hw : headW k t s = 0 := by unfold headW; rw [ho]; rfl
    rw [ho, hw]
    clear ho hw
    go_enter Try.func47, Try.ntmps47
    go_wp2
    go_ret2
    exact ⟨rfl, rfl⟩
  by_cases c5 : 16777216 < s
  · have ho : headOk k t s = false := by unfold headOk; simp; omega
    have hw : headW k t s = 0 := by unfold headW; rw [ho]; rfl
    rw [ho, hw]
    clear ho hw
    go_enter Try.func47, Try.ntmps47
    go_wp2
    go_ret2
    exact ⟨rfl, rfl⟩
  have ho : headOk k t s = true := by unfold headOk; simp; omega
  have hw : headW k t s = 1048576 * s + 16 * t + 2 * k + 1 := by unfold headW; rw [if_pos ho]
  rw [ho, hw]
  clear ho hw
  have hor := head_or k t s (by omega) (by omega) (by omega) (by omega) (by omega) (by omega)
  go_enter Try.func47, Try.ntmps47
  go_wp2
  go_ret2
  exact ⟨ret_ii (by first | rfl | omega) (by first | rfl | (unfold okE; rfl)), rfl⟩
set_option maxHeartbeats 1000000 in
theorem Open_c (w0 : Int) (w : World) (h1 : 0 ≤ w0) (h2 : w0 ≤ 18446744073709551615) : Calls Try.prog 45 #[.int .u64 w0] w fun e w' => e = .returned (.tuple #[.int .i64 (openK w0), .int .i64 (openT w0), .int .i64 (openS w0), .bool (openOk w0)]) ∧ w = w' := by
  have m1 : bits .and .u64 (w0 / 2) 7 = w0 / 2 % 8 := and_mask 3 (w0 / 2) 7 (by omega) (by omega) rfl (by omega)
  have m2 : bits .and .u64 (w0 / 16) 65535 = w0 / 16 % 65536 := and_mask 16 (w0 / 16) 65535 (by omega) (by omega) rfl (by omega)
  by_cases c0 : ¬ w0 % 2 = 1
  · have ho : openOk w0 = false := by unfold openOk; simp; omega
    have hk : openK w0 = 0 := by unfold openK; rw [ho]; rfl
    have ht : openT w0 = 0 := by unfold openT; rw [ho]; rfl
    have hs : openS w0 = 0 := by unfold openS; rw [ho]; rfl
    rw [ho, hk, ht, hs]
    clear ho hk ht hs
    have hi : isI w0 = false := by unfold isI; simp; omega
    go_enter Try.func45, Try.ntmps45
    go_wp2_with (go_at_call 62; refine (IsInt_c _ _ h1 h2).mono ?_; rintro e w' ⟨rfl, rfl⟩)
    exact bodyPost_ret (v := .tuple #[.int .i64 0, .int .i64 0, .int .i64 0, .bool false]) (by simp [results, Try.results45, go_sem]) rfl ⟨rfl, rfl⟩
  by_cases c1 : 3 < w0 / 2 % 8
  · have ho : openOk w0 = false := by unfold openOk; simp; omega
    have hk : openK w0 = 0 := by unfold openK; rw [ho]; rfl
    have ht : openT w0 = 0 := by unfold openT; rw [ho]; rfl
    have hs : openS w0 = 0 := by unfold openS; rw [ho]; rfl
    rw [ho, hk, ht, hs]
    clear ho hk ht hs
    have hi : isI w0 = true := by unfold isI; simp; omega
    go_enter Try.func45, Try.ntmps45
    go_wp2_with (go_at_call 62; refine (IsInt_c _ _ h1 h2).mono ?_; rintro e w' ⟨rfl, rfl⟩)
    exact bodyPost_ret (v := .tuple #[.int .i64 0, .int .i64 0, .int .i64 0, .bool false]) (by simp [results, Try.results45, go_sem]) rfl ⟨rfl, rfl⟩
  by_cases c2 : 16777216 < w0 / 1048576
  · have ho : openOk w0 = false := by unfold openOk; simp; omega
    have hk : openK w0 = 0 := by unfold openK; rw [ho]; rfl
    have ht : openT w0 = 0 := by unfold openT; rw [ho]; rfl
    have hs : openS w0 = 0 := by unfold openS; rw [ho]; rfl
    rw [ho, hk, ht, hs]
    clear ho hk ht hs
    have hi : isI w0 = true := by unfold isI; simp; omega
    go_enter Try.func45, Try.ntmps45
    go_wp2_with (go_at_call 62; refine (IsInt_c _ _ h1 h2).mono ?_; rintro e w' ⟨rfl, rfl⟩)
    exact bodyPost_ret (v := .tuple #[.int .i64 0, .int .i64 0, .int .i64 0, .bool false]) (by simp [results, Try.results45, go_sem]) rfl ⟨rfl, rfl⟩
  have ho : openOk w0 = true := by unfold openOk; simp; omega
  have hk : openK w0 = w0 / 2 % 8 := by unfold openK; rw [if_pos ho]
  have ht : openT w0 = w0 / 16 % 65536 := by unfold openT; rw [if_pos ho]
  have hs : openS w0 = w0 / 1048576 := by unfold openS; rw [if_pos ho]
  rw [ho, hk, ht, hs]
  clear ho hk ht hs
  have hi : isI w0 = true := by unfold isI; simp; omega
  go_enter Try.func45, Try.ntmps45
  go_wp2_with (go_at_call 62; refine (IsInt_c _ _ h1 h2).mono ?_; rintro e w' ⟨rfl, rfl⟩)
  exact bodyPost_ret (v := .tuple #[.int .i64 (w0 / 2 % 8), .int .i64 (w0 / 16 % 65536), .int .i64 (w0 / 1048576), .bool true]) (by simp [results, Try.results45, go_sem]) rfl ⟨rfl, rfl⟩
end Go.Proofs.Ytecpnlhjjmcllaa
