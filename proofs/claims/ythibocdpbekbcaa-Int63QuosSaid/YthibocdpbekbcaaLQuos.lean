/- Int63Quos returns true for every input: any quotient and remainder is the reference's. -/
import Derived.Test.YthibocdpbekbcaaW01a
import Derived.Test.YthibocdpbekbcaaL00
import Derived.Test.YthibocdpbekbcaaRows
namespace Go.Proofs.Ythibocdpbekbcaa
open Go.ChangeShapes Go.WideShapes Go.ChangeAt Go.RowKit
set_option maxHeartbeats 400000 in
theorem Int63Quos_zero (a b : Int) (w : World) (hz0 : W63 b = 0) : Calls Try.prog 8 #[.int .i64 a, .int .i64 b] w fun e w' => e = .returned (.bool true) ∧ Below w.heap.size w w' := by
  have Hz := Lib.hid hz0
  clear hz0
  go_enter Try.func8, Try.ntmps8
  go_wp2_with (first | (go_at_call 29; refine (awake01 _).mono ?_; rintro e w' ⟨rfl, hb⟩) | (go_at_call 41; refine (Quo_zero _ _ _ Hz.out).mono ?_; rintro e w' ⟨rfl, rfl⟩) | (go_at_call 42; refine (Rem_zero _ _ _ Hz.out).mono ?_; rintro e w' ⟨rfl, rfl⟩) | (go_at_call 43; refine (RQuo_zero _ _ _ Hz.out).mono ?_; rintro e w' ⟨rfl, rfl⟩))
  go_ret
  exact ⟨rfl, hb⟩
set_option maxHeartbeats 400000 in
theorem Int63Quos_some (a b : Int) (w : World) (hz0 : W63 b ≠ 0) : Calls Try.prog 8 #[.int .i64 a, .int .i64 b] w fun e w' => e = .returned (.bool true) ∧ Below w.heap.size w w' := by
  have Hz := Lib.hid hz0
  clear hz0
  go_enter Try.func8, Try.ntmps8
  go_wp2_with (first | (go_at_call 29; refine (awake01 _).mono ?_; rintro e w' ⟨rfl, hb⟩) | (go_at_call 41; refine (Quo_some _ _ _ Hz.out).mono ?_; rintro e w' ⟨rfl, rfl⟩) | (go_at_call 42; refine (Rem_some _ _ _ Hz.out).mono ?_; rintro e w' ⟨rfl, rfl⟩) | (go_at_call 43; refine (RQuo_some _ _ _ Hz.out).mono ?_; rintro e w' ⟨rfl, rfl⟩))
  go_ret
  exact ⟨rfl, hb⟩
theorem Int63Quos_c (a b : Int) (w : World) : Calls Try.prog 8 #[.int .i64 a, .int .i64 b] w fun e w' => e = .returned (.bool true) ∧ Below w.heap.size w w' := by
  by_cases h : W63 b = 0
  · exact Int63Quos_zero a b w h
  · exact Int63Quos_some a b w h
theorem int63Quos_own : ownKnob Try.prog.godebug = none := by kernel_rfl
theorem int63Quos_laidOut : laidOutB Try.prog = true := by kernel_rfl
set_option maxRecDepth 100000 in
theorem int63Quos_lifted (os : Os) (started : os.Started) (H : Type) (enc : TypeId × Value → H) :
    ReturnsInHanded {} Try.checked os 8 .any (Rows.int63QuosSpec.pre6 enc Try.prog Try.f8 Rows.int63QuosRow.domain false) (Rows.int63QuosSpec.post enc Try.prog Try.f8 false true false false) := by
  refine returnsInHanded_of_change_sized (C := Try.checked) int63Quos_own started (by kernel_rfl) Try.func8
    (ChangeSpec.witness6 (enc := enc) (C := Try.checked) false ⟨#[], #[.int .i64 0, .int .i64 0], []⟩ 8 (by kernel_rfl) (by kernel_rfl) (by kernel_rfl) (by kernel_rfl)) ?_
  intro W base args ds gs before hval0 hW hcnd hsz0 _
  have hval : ∀ (j : Nat) t v, Try.f8.params[j]? = some t → args[j]? = some v → Value.okWide Try.prog W .any base t v := hval0
  have hsz : (DataW.weightsEach Try.prog (Try.f8.params.toList ++ Rows.int63QuosSpec.plain.varTypes Try.prog) (ds ++ gs)).all (· ≤ reachBytes) = true := hsz0
  have hW' := hW
  obtain ⟨p, q, hA0, hV, rfl, hfz, hnd⟩ := hW
  have hA : DataW.TrodAll enc Try.prog W 0 (fun _ => true) true Try.f8.params.toList args.toList ds p := hA0
  rw [Try.params8] at hA hval hsz
  obtain ⟨rfl, rfl⟩ := trodVars_none hV
  obtain ⟨v0, v1, d0, d1, p0, p1, rfl, rfl, rfl, h0, h1⟩ := trodAll_two hA
  obtain ⟨a, rfl, rfl, rfl, wa⟩ := open_int Try.underlying2 (hval 0 2 v0 rfl rfl) h0
  obtain ⟨b, rfl, rfl, rfl, wb⟩ := open_int Try.underlying2 (hval 1 2 v1 rfl rfl) h1
  refine (Int63Quos_c a b W).mono fun e W' ⟨he, hb⟩ => ?_
  subst he
  exact ⟨_, rfl, law_post (tb := 4) int63Quos_laidOut (by kernel_rfl) (by kernel_rfl) Try.underlying4 rfl rfl rfl rfl hW' hb⟩
theorem int63Quos_holds : Rows.Int63QuosSaid :=
  OpenClaim.holds_of_wide 8 Try.f8 rfl rfl rfl rfl rfl rfl rfl ⟨rfl, rfl, rfl, rfl, rfl⟩ rfl rfl rfl rfl rfl (by kernel_rfl) Try.func8 (by kernel_rfl)
    (of_decide_eq_true (by kernel_rfl)) (by unfold Func.isWrapper; first | (rw [if_pos (by decide +kernel)]; kernel_rfl) | (rw [if_neg (by decide +kernel)]; exact ⟨rfl, rfl⟩))
    (fun os started H enc _ => int63Quos_lifted os started H enc)
#print axioms int63Quos_holds
end Go.Proofs.Ythibocdpbekbcaa
