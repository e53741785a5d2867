/- fix.Level -/
import Derived.Test.YthibocdpbekbcaaP04
import Derived.Test.YthibocdpbekbcaaW01
namespace Go.Proofs.Ythibocdpbekbcaa
open Go.RowKit
set_option maxHeartbeats 4000000 in
theorem Level_c (s : ByteArray) (w : World) : Calls Try.prog 52 #[.string s] w fun e w' => e = .returned (.tuple #[.int .i64 (lvl s.toList : Nat), .int .i64 (sideN (lvl s.toList) : Nat)]) ∧ w = w' := by
  by_cases c0 : s.toList = [58, 61]
  · have e1 : lvl s.toList = lvl [58, 61] := by rw [c0]
    rw [e1]
    clear e1
    go_enter Try.func52, Try.ntmps52
    go_wp2
    go_ret2
    exact ⟨rfl, rfl⟩
  by_cases c1 : s.toList = [124, 124]
  · have e1 : lvl s.toList = lvl [124, 124] := by rw [c1]
    rw [e1]
    clear e1
    go_enter Try.func52, Try.ntmps52
    go_wp2
    go_ret2
    exact ⟨rfl, rfl⟩
  by_cases c2 : s.toList = [38, 38]
  · have e1 : lvl s.toList = lvl [38, 38] := by rw [c2]
    rw [e1]
    clear e1
    go_enter Try.func52, Try.ntmps52
    go_wp2
    go_ret2
    exact ⟨rfl, rfl⟩
  by_cases c3 : s.toList = [61, 61]
  · have e1 : lvl s.toList = lvl [61, 61] := by rw [c3]
    rw [e1]
    clear e1
    go_enter Try.func52, Try.ntmps52
    go_wp2
    go_ret2
    exact ⟨rfl, rfl⟩
  by_cases c4 : s.toList = [47, 61]
  · have e1 : lvl s.toList = lvl [47, 61] := by rw [c4]
    rw [e1]
    clear e1
    go_enter Try.func52, Try.ntmps52
    go_wp2
    go_ret2
    exact ⟨rfl, rfl⟩
  by_cases c5 : s.toList = [60]
  · have e1 : lvl s.toList = lvl [60] := by rw [c5]
    rw [e1]
    clear e1
    go_enter Try.func52, Try.ntmps52
    go_wp2
    go_ret2
    exact ⟨rfl, rfl⟩
  by_cases c6 : s.toList = [60, 61]
  · have e1 : lvl s.toList = lvl [60, 61] := by rw [c6]
    rw [e1]
    clear e1
    go_enter Try.func52, Try.ntmps52
    go_wp2
    go_ret2
    exact ⟨rfl, rfl⟩
  by_cases c7 : s.toList = [62]
  · have e1 : lvl s.toList = lvl [62] := by rw [c7]
    rw [e1]
    clear e1
    go_enter Try.func52, Try.ntmps52
    go_wp2
    go_ret2
    exact ⟨rfl, rfl⟩
  by_cases c8 : s.toList = [62, 61]
  · have e1 : lvl s.toList = lvl [62, 61] := by rw [c8]
    rw [e1]
    clear e1
    go_enter Try.func52, Try.ntmps52
    go_wp2
    go_ret2
    exact ⟨rfl, rfl⟩
  by_cases c9 : s.toList = [58, 58]
  · have e1 : lvl s.toList = lvl [58, 58] := by rw [c9]
    rw [e1]
    clear e1
    go_enter Try.func52, Try.ntmps52
    go_wp2
    go_ret2
    exact ⟨rfl, rfl⟩
  by_cases c10 : s.toList = [94]
  · have e1 : lvl s.toList = lvl [94] := by rw [c10]
    rw [e1]
    clear e1
    go_enter Try.func52, Try.ntmps52
    go_wp2
    go_ret2
    exact ⟨rfl, rfl⟩
  by_cases c11 : s.toList = [43]
  · have e1 : lvl s.toList = lvl [43] := by rw [c11]
    rw [e1]
    clear e1
    go_enter Try.func52, Try.ntmps52
    go_wp2
    go_ret2
    exact ⟨rfl, rfl⟩
  by_cases c12 : s.toList = [45]
  · have e1 : lvl s.toList = lvl [45] := by rw [c12]
    rw [e1]
    clear e1
    go_enter Try.func52, Try.ntmps52
    go_wp2
    go_ret2
    exact ⟨rfl, rfl⟩
  by_cases c13 : s.toList = [42]
  · have e1 : lvl s.toList = lvl [42] := by rw [c13]
    rw [e1]
    clear e1
    go_enter Try.func52, Try.ntmps52
    go_wp2
    go_ret2
    exact ⟨rfl, rfl⟩
  by_cases c14 : s.toList = [47]
  · have e1 : lvl s.toList = lvl [47] := by rw [c14]
    rw [e1]
    clear e1
    go_enter Try.func52, Try.ntmps52
    go_wp2
    go_ret2
    exact ⟨rfl, rfl⟩
  by_cases c15 : s.toList = [37]
  · have e1 : lvl s.toList = lvl [37] := by rw [c15]
    rw [e1]
    clear e1
    go_enter Try.func52, Try.ntmps52
    go_wp2
    go_ret2
    exact ⟨rfl, rfl⟩
  have d0 : (s.toList == [58, 61]) = false := beq_eq_false_iff_ne.2 c0
  have d1 : (s.toList == [124, 124]) = false := beq_eq_false_iff_ne.2 c1
  have d2 : (s.toList == [38, 38]) = false := beq_eq_false_iff_ne.2 c2
  have d3 : (s.toList == [61, 61]) = false := beq_eq_false_iff_ne.2 c3
  have d4 : (s.toList == [47, 61]) = false := beq_eq_false_iff_ne.2 c4
  have d5 : (s.toList == [60]) = false := beq_eq_false_iff_ne.2 c5
  have d6 : (s.toList == [60, 61]) = false := beq_eq_false_iff_ne.2 c6
  have d7 : (s.toList == [62]) = false := beq_eq_false_iff_ne.2 c7
  have d8 : (s.toList == [62, 61]) = false := beq_eq_false_iff_ne.2 c8
  have d9 : (s.toList == [58, 58]) = false := beq_eq_false_iff_ne.2 c9
  have d10 : (s.toList == [94]) = false := beq_eq_false_iff_ne.2 c10
  have d11 : (s.toList == [43]) = false := beq_eq_false_iff_ne.2 c11
  have d12 : (s.toList == [45]) = false := beq_eq_false_iff_ne.2 c12
  have d13 : (s.toList == [42]) = false := beq_eq_false_iff_ne.2 c13
  have d14 : (s.toList == [47]) = false := beq_eq_false_iff_ne.2 c14
  have d15 : (s.toList == [37]) = false := beq_eq_false_iff_ne.2 c15
  have e8 : lvl s.toList = 8 := by unfold lvl; simp [rowsT, List.findIdx_cons, c0, c1, c2, c3, c4, c5, c6, c7, c8, c9, c10, c11, c12, c13, c14, c15]
  rw [e8]
  clear e8 c0 c1 c2 c3 c4 c5 c6 c7 c8 c9 c10 c11 c12 c13 c14 c15
  go_enter Try.func52, Try.ntmps52
  go_wp2
  go_ret2
  exact ⟨rfl, rfl⟩
end Go.Proofs.Ythibocdpbekbcaa
