/- cognateref02.Same -/
import Derived.Test.YthibocdpbekbcaaW02p
import Derived.Test.YthibocdpbekbcaaSL
import Derived.Deep.QuietTactic
import Derived.BigQuiet
namespace Go.Proofs.Ythibocdpbekbcaa
open Go.RowKit
set_option maxHeartbeats 1000000 in
theorem Same_c (a b : Option Addr) (n m ca cb : Nat) (xs ys : List Nat) (w : World) (ha : SlAt w a 1 n (u64s xs)) (hb : SlAt w b 1 m (u64s ys)) (hn : n ≤ 1000000000) (hm : m ≤ 1000000000) :
    Calls Try.prog 38 #[.slice a n ca, .slice b m cb] w fun e w' => e = .returned (.bool (xs == ys)) ∧ Below w.heap.size w w' := by
  have lx : xs.length = n := by have := ha.len; simpa [u64s_len] using this
  have ly : ys.length = m := by have := hb.len; simpa [u64s_len] using this
  by_cases hnm : n = m
  · subst hnm
    have LX := Lib.hid lx
    have LY := Lib.hid ly
    clear lx ly
    go_enter Try.func38, Try.ntmps38
    go_wp2
    go_loopw [5] (fun vi wr => ∃ k : Nat, k ≤ n ∧ vi = .int .i64 k ∧ xs.take k = ys.take k ∧ Below w.heap.size w wr) (fun vi _ => n - (intOf vi).toNat)
    case atStart => exact ⟨0, Nat.zero_le _, rfl, rfl, Below.refl _ _⟩
    case round =>
      obtain ⟨k, hk, rfl, heq, hbel⟩ := hrel
      have HEQ := Lib.hid heq
      clear heq
      by_cases hkn : k < n
      · obtain ⟨ba, oa, ea, hca⟩ := (ha.below hbel).get (by omega)
        obtain ⟨bb, ob, eb, hcb⟩ := (hb.below hbel).get (by omega)
        subst ea
        subst eb
        have hkx : k < xs.length := by rw [LX.out]; exact hkn
        have hky : k < ys.length := by rw [LY.out]; exact hkn
        have c1 : wr.cell? ⟨ba, oa + k, none⟩ = some (.int .u64 (xs[k] : Nat)) := by rw [hca k (by omega)]; simp [u64s, hkx]
        have c2 : wr.cell? ⟨bb, ob + k, none⟩ = some (.int .u64 (ys[k] : Nat)) := by rw [hcb k (by omega)]; simp [u64s, hky]
        obtain ⟨x, hx⟩ : ∃ x, x = xs[k] := ⟨_, rfl⟩
        obtain ⟨y, hy⟩ : ∃ y, y = ys[k] := ⟨_, rfl⟩
        rw [← hx] at c1
        rw [← hy] at c2
        have HX := Lib.hid hx
        have HY := Lib.hid hy
        clear hx hy hca hcb
        go_wp2
        go_quiet (fail)
        all_goals go_wp2
        · have hne : ((x : Int) != (y : Int)) = true := by assumption
          have hne' : x ≠ y := by rw [bne_iff_ne] at hne; omega
          go_ret
          refine ⟨ret_bool ?_, below_drewN hbel _⟩
          symm
          rw [beq_eq_false_iff_ne]
          intro e
          apply hne'
          rw [HX.out, HY.out]
          simp [e]
        · have hne : ((x : Int) != (y : Int)) = false := by assumption
          have hne' : x = y := by simp at hne; omega
          go_roundw
          case rel => exact ⟨k + 1, by omega, by go_num, by rw [List.take_succ_eq_append_getElem hkx, List.take_succ_eq_append_getElem hky, HEQ.out, ← HX.out, ← HY.out, hne'], below_drewN hbel _⟩
          case measure => simp [intOf]; omega
      · go_wp2
        go_ret
        have hkl : k = n := by omega
        have h1 := HEQ.out
        rw [List.take_of_length_le (by rw [LX.out]; omega), List.take_of_length_le (by rw [LY.out]; omega)] at h1
        exact ⟨ret_bool (by rw [h1]; simp), hbel⟩
  · have hne : ((n : Int) != (m : Int)) = true := by rw [bne_iff_ne]; omega
    have hxy : (xs == ys) = false := by rw [beq_eq_false_iff_ne]; intro e; rw [e] at lx; omega
    rw [hxy]
    clear lx ly hxy
    go_enter Try.func38, Try.ntmps38
    go_wp2
    go_ret
    exact ⟨rfl, Below.refl _ _⟩
end Go.Proofs.Ythibocdpbekbcaa
