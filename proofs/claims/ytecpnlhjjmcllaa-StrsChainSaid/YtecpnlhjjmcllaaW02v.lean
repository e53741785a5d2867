/- word.Unpack at what it refuses; cognateref02.Unpack -/
import Derived.Test.YtecpnlhjjmcllaaW02u
namespace Go.Proofs.Ytecpnlhjjmcllaa
open Go.RowKit
set_option maxHeartbeats 1000000 in
theorem Unpack_no (a : Option Addr) (m ca : Nat) (n : Int) (w : World) (hm : m ≤ 1000000) (h : n < 0 ∨ 8 * (m : Int) < n ∨ n ≤ 8 * ((m : Int) - 1)) :
    Calls Try.prog 52 #[.slice a m ca, .int .i64 n] w fun e w' => e = .returned (.tuple #[.string ⟨#[]⟩, .int .i64 2]) ∧ w = w' := by
  by_cases h1 : n < 0
  · clear h
    go_enter Try.func52, Try.ntmps52
    go_wp2
    go_ret2
    exact ⟨rfl, rfl⟩
  · by_cases h2 : 8 * (m : Int) < n
    · clear h
      go_enter Try.func52, Try.ntmps52
      go_wp2
      go_ret2
      exact ⟨rfl, rfl⟩
    · have h3 : n ≤ 8 * ((m : Int) - 1) := by omega
      clear h
      go_enter Try.func52, Try.ntmps52
      go_wp2
      go_ret2
      exact ⟨rfl, rfl⟩
theorem elemU8 : ElemT Try.prog 105 5 (.int .u8 0) 1 1 := ⟨Try.underlying105, infoU8, rfl, by omega, by omega⟩
theorem conv_own_any {w : World} {base n : Nat} {v : Value} {l : List Nat} (hown : w.ownsRow base 5 1 v n (u8s l)) :
    (convert 105 9 v).run Try.prog w = .ok (.string (strN l)) w := by
  have h' := hown
  rcases hown.2 with ⟨rfl, rfl⟩ | ⟨g, cap, cur, rfl, _⟩
  · have hl : l = [] := by have := hown.1; simpa [u8s] using this
    subst hl
    exact run_convert_bytes_nil w 105 5 (by kernel_rfl) (by kernel_rfl) 0 0 9 (by kernel_rfl)
  · exact conv_own h'
theorem bytesOf_succ (ls : List Nat) (k : Nat) : bytesOf ls (k + 1) = bytesOf ls k ++ [byteAt ls k] := by simp [bytesOf, List.range_succ]
end Go.Proofs.Ytecpnlhjjmcllaa
