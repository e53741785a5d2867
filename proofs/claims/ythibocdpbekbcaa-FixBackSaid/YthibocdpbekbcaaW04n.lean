/- cognateref04.Side, Needs; fix.Needs; cognatelaw04.FixLevels' walk needs awake -/
import Derived.Test.YthibocdpbekbcaaW04r
import Derived.Test.YthibocdpbekbcaaAP
import Derived.Test.YthibocdpbekbcaaP04b
namespace Go.Proofs.Ythibocdpbekbcaa
open Go.RowKit
set_option maxHeartbeats 400000 in
theorem Side_c (l : Nat) (w : World) : Calls Try.prog 54 #[.int .i64 (l : Nat)] w fun e w' => e = .returned (.int .i64 (sideN l : Nat)) ∧ w = w' := by
  by_cases h4 : l = 4
  · subst h4
    go_enter Try.func54, Try.ntmps54
    go_wp2
    go_ret
    exact ⟨rfl, rfl⟩
  · have h4' : ((l : Int) == 4) = false := by simp; omega
    by_cases h6 : l < 6
    · have e : sideN l = 2 := by unfold sideN; rw [if_neg h4, if_pos h6]
      rw [e]
      clear e
      go_enter Try.func54, Try.ntmps54
      go_wp2
      go_ret
      exact ⟨rfl, rfl⟩
    · have e : sideN l = 1 := by unfold sideN; rw [if_neg h4, if_neg h6]
      rw [e]
      clear e
      go_enter Try.func54, Try.ntmps54
      go_wp2
      go_ret
      exact ⟨rfl, rfl⟩
theorem needs_ne {a b : Nat} (h : a ≠ b) (r : Bool) : needs a b r = decide (b < a) := by unfold needs; rw [if_neg h]
theorem needs_eq (a : Nat) (r : Bool) : needs a a r = (if r then sideN a != 2 else sideN a != 1) := by unfold needs; rw [if_pos rfl]
set_option maxHeartbeats 1000000 in
theorem Needs_c (s t : ByteArray) (r : Bool) (w : World) : Calls Try.prog 55 #[.string s, .string t, .bool r] w fun e w' => e = .returned (.bool (needs (lvl s.toList) (lvl t.toList) r)) ∧ w = w' := by
  obtain ⟨a, ha⟩ : ∃ a, a = lvl s.toList := ⟨_, rfl⟩
  obtain ⟨b, hb⟩ : ∃ b, b = lvl t.toList := ⟨_, rfl⟩
  have ls := Level_c s
  have lt := Level_c t
  rw [← ha] at ls
  rw [← hb] at lt
  rw [← ha, ← hb]
  have LS := Lib.hid ls
  have LT := Lib.hid lt
  clear ls lt ha hb
  by_cases hab : a = b
  · subst hab
    rw [needs_eq]
    have hne : ((a : Int) != (a : Int)) = false := by simp
    have hs : sideN a ≤ 2 := by unfold sideN; split <;> (try split) <;> omega
    obtain ⟨d, hd⟩ : ∃ d, d = sideN a := ⟨_, rfl⟩
    rw [← hd] at hs LS LT ⊢
    clear hd
    cases r
    all_goals
      go_enter Try.func55, Try.ntmps55
      go_wp2_with (fail)
      refine (LS.out _).mono ?_
      rintro e w1 ⟨rfl, rfl⟩
      go_wp2_with (fail)
      refine (LT.out _).mono ?_
      rintro e w1 ⟨rfl, rfl⟩
      go_wp2_with (fail)
      go_ret
      refine ⟨ret_bool ?_, rfl⟩
      rw [Bool.eq_iff_iff]
      simp
      omega
  · have hne : ((a : Int) != (b : Int)) = true := by rw [bne_iff_ne]; omega
    rw [needs_ne hab]
    go_enter Try.func55, Try.ntmps55
    go_wp2_with (fail)
    refine (LS.out _).mono ?_
    rintro e w1 ⟨rfl, rfl⟩
    go_wp2_with (fail)
    refine (LT.out _).mono ?_
    rintro e w1 ⟨rfl, rfl⟩
    go_wp2_with (fail)
    go_ret
    exact ⟨ret_bool (by first | rfl | (rw [Bool.eq_iff_iff]; simp)), rfl⟩
set_option maxHeartbeats 1000000 in
theorem rNeeds_c (s t : ByteArray) (r : Bool) (w : World) : Calls Try.prog 56 #[.string s, .string t, .bool r] w fun e w' => e = .returned (.bool (needs (lvl s.toList) (lvl t.toList) r)) ∧ Below w.heap.size w w' := by
  obtain ⟨a, ha⟩ : ∃ a, a = lvl s.toList := ⟨_, rfl⟩
  obtain ⟨b, hb⟩ : ∃ b, b = lvl t.toList := ⟨_, rfl⟩
  have ls := rLevel_c s
  have lt := rLevel_c t
  rw [← ha] at ls
  rw [← hb] at lt
  rw [← ha, ← hb]
  have LS := Lib.hid ls
  have LT := Lib.hid lt
  clear ls lt ha hb
  by_cases hab : a = b
  · subst hab
    rw [needs_eq]
    have hne : ((a : Int) == (a : Int)) = true := by simp
    have sc := Side_c a
    have hs : sideN a ≤ 2 := by unfold sideN; split <;> (try split) <;> omega
    obtain ⟨d, hd⟩ : ∃ d, d = sideN a := ⟨_, rfl⟩
    rw [← hd] at hs sc ⊢
    have SC := Lib.hid sc
    clear hd sc
    cases r
    all_goals
      go_enter Try.func56, Try.ntmps56
      go_wp2_with (fail)
      refine (LS.out _).mono ?_
      rintro e w1 ⟨rfl, hb1⟩
      go_wp2_with (fail)
      refine (LT.out _).mono ?_
      rintro e w2 ⟨rfl, hb2⟩
      go_wp2_with (fail)
      refine (SC.out _).mono ?_
      rintro e w3 ⟨rfl, rfl⟩
      go_wp2_with (fail)
      go_ret
      refine ⟨ret_bool ?_, bel_trans hb1 hb2⟩
      rw [Bool.eq_iff_iff]
      simp
      omega
  · rw [needs_ne hab]
    by_cases hlt : b < a
    · have d1 : decide (b < a) = true := by simp; omega
      rw [d1]
      cases r
      all_goals
        go_enter Try.func56, Try.ntmps56
        go_wp2_with (fail)
        refine (LS.out _).mono ?_
        rintro e w1 ⟨rfl, hb1⟩
        go_wp2_with (fail)
        refine (LT.out _).mono ?_
        rintro e w2 ⟨rfl, hb2⟩
        go_wp2_with (fail)
        go_ret
        exact ⟨rfl, bel_trans hb1 hb2⟩
    · have d1 : decide (b < a) = false := by simp; omega
      have hne : ((b : Int) == (a : Int)) = false := by simp; omega
      rw [d1]
      cases r
      all_goals
        go_enter Try.func56, Try.ntmps56
        go_wp2_with (fail)
        refine (LS.out _).mono ?_
        rintro e w1 ⟨rfl, hb1⟩
        go_wp2_with (fail)
        refine (LT.out _).mono ?_
        rintro e w2 ⟨rfl, hb2⟩
        go_wp2_with (fail)
        go_ret
        exact ⟨rfl, bel_trans hb1 hb2⟩
end Go.Proofs.Ythibocdpbekbcaa
