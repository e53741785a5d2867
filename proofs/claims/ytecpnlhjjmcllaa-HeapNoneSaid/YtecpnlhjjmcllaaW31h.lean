/- The heap in memory; is, Used, Room. -/
import Derived.Test.YtecpnlhjjmcllaaW31p
import Derived.Test.YtecpnlhjjmcllaaW02h
import Derived.Deep.RegionWith
namespace Go.Proofs.Ytecpnlhjjmcllaa
open Go.RowKit
/-- what a heap is -/
structure Hp where
  size : Nat
  now : Nat
  x0 : List Nat
  b0 : List Bool
  x1 : List Nat
  b1 : List Bool
def Hp.xs (H : Hp) : List Nat := if H.now = 0 then H.x0 else H.x1
def Hp.bs (H : Hp) : List Bool := if H.now = 0 then H.b0 else H.b1
def arrH (H : Hp) (a b c d : Value) : Array Value := #[.int .i64 (H.size : Int), a, b, c, d, .int .i64 (H.now : Int)]
/-- a heap lies in a block -/
structure HpAt (w : World) (base p : Nat) (H : Hp) (a b c d : Value) : Prop where
  s0 : SpAt w base p 1 (arrH H a b c d) 81 H.x0 H.b0 a b
  s1 : SpAt w base p 3 (arrH H a b c d) 81 H.x1 H.b1 c d
  ac : Apart a c
  ad : Apart a d
  bc : Apart b c
  bd : Apart b d
  now : H.now = 0 ∨ H.now = 1
  lo : 1 ≤ H.size
  hi : H.size ≤ 16777216
theorem is_none (w : World) : Calls Try.prog 43 #[.pointer none] w fun e w' => e = .returned (.bool false) ∧ w' = w := by
  go_enter Try.func43, Try.ntmps43
  go_wp2
  go_ret
  exact ⟨rfl, rfl⟩
theorem is_some (w : World) (p n : Nat) (h : w.cell? ⟨p, 0, none⟩ = some (.int .i64 (n : Int))) (hn : 1 ≤ n) : Calls Try.prog 43 #[.pointer (some ⟨p, 0, none⟩)] w fun e w' => e = .returned (.bool true) ∧ w' = w := by
  have i1 : decide ((n : Int) > 0) = true := by simp; omega
  have i2 : decide ((0 : Int) < (n : Int)) = true := by simp; omega
  have i3 : decide (0 < n) = true := by simp; omega
  go_enter Try.func43, Try.ntmps43
  go_wp2
  go_ret
  exact ⟨rfl, rfl⟩
theorem Used_none (w : World) : Calls Try.prog 15 #[.pointer none] w fun e w' => e = .returned (.int .i64 0) ∧ w' = w := by
  go_enter Try.func15, Try.ntmps15
  go_wp2_with (go_at_call 43; refine (is_none _).mono ?_; rintro e w' ⟨rfl, rfl⟩)
  go_ret
  exact ⟨rfl, rfl⟩
theorem Room_none (n : Int) (w : World) : Calls Try.prog 25 #[.pointer none, .int .i64 n] w fun e w' => e = .returned (.bool false) ∧ ∃ m, w' = w.drewN m := by
  go_enter Try.func25, Try.ntmps25
  go_wp2_with fail
  go_quiet ((go_at_call 43; exact Calls.quiet_of_same (is_none _)))
  go_wp2
  go_ret
  exact ⟨rfl, _, rfl⟩
theorem Used_some (w : World) (base p : Nat) (H : Hp) (a b c d : Value) (h : HpAt w base p H a b c d) (hx : H.xs.length ≤ 100000000) : Calls Try.prog 15 #[.pointer (some ⟨p, 0, none⟩)] w fun e w' => e = .returned (.int .i64 ((H.xs.length : Int) - 1)) ∧ ∃ m, w' = w.drewN m := by
  obtain ⟨aa, ca, rfl, -⟩ := SlAt.of_own h.s0.ow
  obtain ⟨ac, cc, rfl, -⟩ := SlAt.of_own h.s1.ow
  obtain ⟨size, now, x0, b0, x1, b1⟩ := H
  have c0 := h.s0.bk.cell 0
  have c1 := h.s0.bk.cell 1
  have c3 := h.s0.bk.cell 3
  have c5 := h.s0.bk.cell 5
  have hlo := h.lo
  simp only [arrH] at c0 c1 c3 c5 hlo
  rcases h.now with hnow | hnow
  all_goals
    simp only at hnow
    subst hnow
    simp [Hp.xs] at hx ⊢
    simp at c0 c1 c3 c5
    clear h
    go_enter Try.func15, Try.ntmps15
    go_wp2_with (go_at_call 43; refine (is_some _ p size c0 hlo).mono ?_; rintro e w' ⟨rfl, rfl⟩)
    go_quiet (fail)
    go_wp2
    go_ret
    exact ⟨by go_num, _, rfl⟩
end Go.Proofs.Ytecpnlhjjmcllaa
