/- Int63Back returns true for every input: Parse undoes Text, a difference undoes a sum, a product shares out, and a quotient times its divisor with the remainder is what was divided. -/
import Derived.Test.YthibocdpbekbcaaW01a
import Derived.Test.YthibocdpbekbcaaP01q
import Derived.Test.YthibocdpbekbcaaL00
import Derived.Test.YthibocdpbekbcaaRows
namespace Go.Proofs.Ythibocdpbekbcaa
open Go.ChangeShapes Go.WideShapes Go.ChangeAt Go.RowKit
set_option maxHeartbeats 1000000 in
theorem Int63Back_zero (a b c : Int) (w : World) (hz0 : W63 b = 0) : Calls Try.prog 14 #[.int .i64 a, .int .i64 b, .int .i64 c] w fun e w' => e = .returned (.bool true) ∧ Below w.heap.size w w' := by
  have Hz := Lib.hid hz0
  clear hz0
  have e0 := W63_W63 a
  have e1 := back_sub a b
  have e2 := back_dist a b c
  have e3 : W63 (b * a) = W63 (a * b) := by rw [Int.mul_comm]
  go_enter Try.func14, Try.ntmps14
  go_wp2_with (first | (go_at_call 29; refine (awake01 _).mono ?_; rintro e w' ⟨rfl, hb⟩) | (go_at_call 58; refine (Text_c _ _).mono ?_; rintro e w2 ⟨rfl, hb2⟩) | (go_at_call 57; refine (Parse_Text _ _ (W63_lo a) (W63_hi a)).mono ?_; rintro e w' ⟨rfl, rfl⟩) | (go_at_call 46; refine (Wrap_c _ _).mono ?_; rintro e w' ⟨rfl, rfl⟩) | (go_at_call 47; refine (Fits_c _ _).mono ?_; rintro e w' ⟨rfl, rfl⟩) | (go_at_call 30; refine (Add_c _ _ _).mono ?_; rintro e w' ⟨rfl, rfl⟩) | (go_at_call 32; refine (Sub_c _ _ _).mono ?_; rintro e w' ⟨rfl, rfl⟩) | (go_at_call 34; refine (Mul_c _ _ _).mono ?_; rintro e w' ⟨rfl, rfl⟩) | (go_at_call 41; refine (Quo_zero _ _ _ Hz.out).mono ?_; rintro e w' ⟨rfl, rfl⟩) | (go_at_call 42; refine (Rem_zero _ _ _ Hz.out).mono ?_; rintro e w' ⟨rfl, rfl⟩))
  go_ret
  exact ⟨rfl, hb.trans (hb2.mono hb.size)⟩
set_option maxHeartbeats 1000000 in
theorem Int63Back_some (a b c : Int) (w : World) (hz0 : W63 b ≠ 0) : Calls Try.prog 14 #[.int .i64 a, .int .i64 b, .int .i64 c] w fun e w' => e = .returned (.bool true) ∧ Below w.heap.size w w' := by
  have Hz := Lib.hid hz0
  clear hz0
  have e0 := W63_W63 a
  have e1 := back_sub a b
  have e2 := back_dist a b c
  have e3 : W63 (b * a) = W63 (a * b) := by rw [Int.mul_comm]
  have e4 := back_quo a b
  go_enter Try.func14, Try.ntmps14
  go_wp2_with (first | (go_at_call 29; refine (awake01 _).mono ?_; rintro e w' ⟨rfl, hb⟩) | (go_at_call 58; refine (Text_c _ _).mono ?_; rintro e w2 ⟨rfl, hb2⟩) | (go_at_call 57; refine (Parse_Text _ _ (W63_lo a) (W63_hi a)).mono ?_; rintro e w' ⟨rfl, rfl⟩) | (go_at_call 46; refine (Wrap_c _ _).mono ?_; rintro e w' ⟨rfl, rfl⟩) | (go_at_call 47; refine (Fits_c _ _).mono ?_; rintro e w' ⟨rfl, rfl⟩) | (go_at_call 30; refine (Add_c _ _ _).mono ?_; rintro e w' ⟨rfl, rfl⟩) | (go_at_call 32; refine (Sub_c _ _ _).mono ?_; rintro e w' ⟨rfl, rfl⟩) | (go_at_call 34; refine (Mul_c _ _ _).mono ?_; rintro e w' ⟨rfl, rfl⟩) | (go_at_call 41; refine (Quo_some _ _ _ Hz.out).mono ?_; rintro e w' ⟨rfl, rfl⟩) | (go_at_call 42; refine (Rem_some _ _ _ Hz.out).mono ?_; rintro e w' ⟨rfl, rfl⟩))
  go_ret
  exact ⟨rfl, hb.trans (hb2.mono hb.size)⟩
theorem Int63Back_c (a b c : Int) (w : World) : Calls Try.prog 14 #[.int .i64 a, .int .i64 b, .int .i64 c] w fun e w' => e = .returned (.bool true) ∧ Below w.heap.size w w' := by
  by_cases h : W63 b = 0
  · exact Int63Back_zero a b c w h
  · exact Int63Back_some a b c w h
theorem int63Back_own : ownKnob Try.prog.godebug = none := by kernel_rfl
theorem int63Back_laidOut : laidOutB Try.prog = true := by kernel_rfl
set_option maxRecDepth 100000 in
theorem int63Back_lifted (os : Os) (started : os.Started) (H : Type) (enc : TypeId × Value → H) :
    ReturnsInHanded {} Try.checked os 14 .any (Rows.int63BackSpec.pre6 enc Try.prog Try.f14 Rows.int63BackRow.domain false) (Rows.int63BackSpec.post enc Try.prog Try.f14 false true false false) := by
  refine returnsInHanded_of_change_sized (C := Try.checked) int63Back_own started (by kernel_rfl) Try.func14
    (ChangeSpec.witness6 (enc := enc) (C := Try.checked) false ⟨#[], #[.int .i64 0, .int .i64 0, .int .i64 0], []⟩ 8 (by kernel_rfl) (by kernel_rfl) (by kernel_rfl) (by kernel_rfl)) ?_
  intro W base args ds gs before hval0 hW hcnd hsz0 _
  have hval : ∀ (j : Nat) t v, Try.f14.params[j]? = some t → args[j]? = some v → Value.okWide Try.prog W .any base t v := hval0
  have hsz : (DataW.weightsEach Try.prog (Try.f14.params.toList ++ Rows.int63BackSpec.plain.varTypes Try.prog) (ds ++ gs)).all (· ≤ reachBytes) = true := hsz0
  have hW' := hW
  obtain ⟨p, q, hA0, hV, rfl, hfz, hnd⟩ := hW
  have hA : DataW.TrodAll enc Try.prog W 0 (fun _ => true) true Try.f14.params.toList args.toList ds p := hA0
  rw [Try.params14] at hA hval hsz
  obtain ⟨rfl, rfl⟩ := trodVars_none hV
  obtain ⟨v0, v1, v2, d0, d1, d2, p0, p1, p2, rfl, rfl, rfl, h0, h1, h2⟩ := trodAll_three hA
  obtain ⟨a, rfl, rfl, rfl, wa⟩ := open_int Try.underlying2 (hval 0 2 v0 rfl rfl) h0
  obtain ⟨b, rfl, rfl, rfl, wb⟩ := open_int Try.underlying2 (hval 1 2 v1 rfl rfl) h1
  obtain ⟨c, rfl, rfl, rfl, wc⟩ := open_int Try.underlying2 (hval 2 2 v2 rfl rfl) h2
  refine (Int63Back_c a b c W).mono fun e W' ⟨he, hb⟩ => ?_
  subst he
  exact ⟨_, rfl, law_post (tb := 4) int63Back_laidOut (by kernel_rfl) (by kernel_rfl) Try.underlying4 rfl rfl rfl rfl hW' hb⟩
theorem int63Back_holds : Rows.Int63BackSaid :=
  OpenClaim.holds_of_wide 14 Try.f14 rfl rfl rfl rfl rfl rfl rfl ⟨rfl, rfl, rfl, rfl, rfl⟩ rfl rfl rfl rfl rfl (by kernel_rfl) Try.func14 (by kernel_rfl)
    (of_decide_eq_true (by kernel_rfl)) (by unfold Func.isWrapper; first | (rw [if_pos (by decide +kernel)]; kernel_rfl) | (rw [if_neg (by decide +kernel)]; exact ⟨rfl, rfl⟩))
    (fun os started H enc _ => int63Back_lifted os started H enc)
#print axioms int63Back_holds
end Go.Proofs.Ythibocdpbekbcaa
