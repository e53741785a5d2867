/- Walks of layer 1: int63.Wrap, Fits, Add, Sub, Mul, Quo, Rem, Cmp and the reference's Mod, Mean, Wrap, Add, Sub, Mul, size, Signed, Quo. -/
import Derived.Test.YtjgjnheeohfmmaaProg
import Derived.Test.YtjgjnheeohfmmaaP01
import Derived.WalkKit
import Derived.WalkSpells
import Derived.WalkLawsBesides
import Derived.Lib.Hide
namespace Go.Proofs.Ytjgjnheeohfmmaa
open Go.RowKit
theorem ret_int {k : IntKind} {a b : Int} (h : a = b) : Ending.returned (.int k a) = .returned (.int k b) := by rw [h]
theorem ret_ii {k l : IntKind} {a b c d : Int} (h : a = b) (h' : c = d) : Ending.returned (.tuple #[.int k a, .int l c]) = .returned (.tuple #[.int k b, .int l d]) := by rw [h, h']
theorem ret_bool {a b : Bool} (h : a = b) : Ending.returned (.bool a) = .returned (.bool b) := by rw [h]
set_option maxHeartbeats 400000 in
theorem Wrap_c (n : Int) (w : World) : Calls Try.prog 110 #[.int .i64 n] w fun e w' => e = .returned (.int .i64 (W63 n)) ∧ w = w' := by
  go_enter Try.func110, Try.ntmps110
  go_wp2
  go_ret
  exact ⟨ret_int (W63_shift n), rfl⟩
/-- what Cmp answers -/
def cmp3 (a b : Int) : Int := if a < b then -1 else if b < a then 1 else 0
set_option maxHeartbeats 400000 in
theorem Mod_c (n : Int) (w : World) : Calls Try.prog 138 #[.int .i64 n] w fun e w' => e = .returned (.int .u64 (R63 n)) ∧ w = w' := by
  go_enter Try.func138, Try.ntmps138
  go_wp2
  go_ret
  exact ⟨ret_int (R63_u64 n), rfl⟩
set_option maxHeartbeats 400000 in
theorem Mean_c (n : Int) (w : World) (h1 : 0 ≤ n) (h2 : n ≤ 9223372036854775807) : Calls Try.prog 137 #[.int .u64 n] w fun e w' => e = .returned (.int .i64 (W63 n)) ∧ w = w' := by
  go_enter Try.func137, Try.ntmps137
  go_wp2
  all_goals go_ret
  all_goals exact ⟨ret_int (by unfold W63; omega), rfl⟩
set_option maxHeartbeats 400000 in
theorem RWrap_c (n : Int) (w : World) : Calls Try.prog 111 #[.int .i64 n] w fun e w' => e = .returned (.int .i64 (W63 n)) ∧ w = w' := by
  go_enter Try.func111, Try.ntmps111
  go_wp2_with (first | (go_at_call 138; refine (Mod_c _ _).mono ?_; rintro e w' ⟨rfl, rfl⟩) | (go_at_call 137; refine (Mean_c _ _ (R63_lo _) (R63_hi _)).mono ?_; rintro e w' ⟨rfl, rfl⟩))
  go_ret
  exact ⟨ret_int (W63_R63 n), rfl⟩
set_option maxHeartbeats 400000 in
theorem size_c (n : Int) (w : World) (h1 : -9223372036854775808 ≤ n) (h2 : n ≤ 9223372036854775807) : Calls Try.prog 113 #[.int .i64 n] w fun e w' => e = .returned (.int .u64 (absI n)) ∧ w = w' := by
  go_enter Try.func113, Try.ntmps113
  go_wp2
  all_goals go_ret
  all_goals exact ⟨ret_int (by unfold absI; omega), rfl⟩
theorem ret_iib {k l : IntKind} {a b c d : Int} {x : Bool} (h : a = b) (h' : c = d) : Ending.returned (.tuple #[.int k a, .int l c, .bool x]) = .returned (.tuple #[.int k b, .int l d, .bool x]) := by rw [h, h']
end Go.Proofs.Ytjgjnheeohfmmaa
