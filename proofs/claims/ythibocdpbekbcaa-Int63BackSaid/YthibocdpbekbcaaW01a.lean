/- cognatelaw01.awake -/
import Derived.Test.YthibocdpbekbcaaW01t
namespace Go.Proofs.Ythibocdpbekbcaa
open Go.RowKit
theorem quo_m7 : W63 ((W63 (-7)).tdiv (W63 2)) = -3 := by decide
set_option maxHeartbeats 400000 in
theorem awake01 (w : World) : Calls Try.prog 29 #[] w fun e w' => e = .returned (.bool true) ∧ Below w.heap.size w w' := by
  have k1 : W63 4611686018427387904 = -4611686018427387904 := by decide
  have k2 : (txt (W63 (-5))).toList = [45, 53] := by decide +kernel
  go_enter Try.func29, Try.ntmps29
  go_wp2_with (first | (go_at_call 41; refine (Quo_some (-7) 2 _ (by decide)).mono ?_; rintro e w' ⟨rfl, rfl⟩; rw [quo_m7]) | (go_at_call 30; refine (Add_c _ _ _).mono ?_; rintro e w' ⟨rfl, rfl⟩) | (go_at_call 58; refine (Text_c _ _).mono ?_; rintro e w' ⟨rfl, hb⟩))
  go_ret
  exact ⟨rfl, hb⟩
end Go.Proofs.Ythibocdpbekbcaa
