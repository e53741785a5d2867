/- WordPtrs returns true for every input: any address has the reference's word, or none, and any word its address, or none. -/
import Derived.Test.YthibocdpbekbcaaW02a
import Derived.Test.YthibocdpbekbcaaL00
import Derived.Test.YthibocdpbekbcaaRows
import Derived.Lib.SmallJoins
namespace Go.Proofs.Ythibocdpbekbcaa
open Go.ChangeShapes Go.WideShapes Go.ChangeAt Go.RowKit Go.Joins
set_option maxHeartbeats 400000 in
theorem WordPtrs_c (a w0 : Int) (w : World) (a1 : -9223372036854775808 ≤ a) (a2 : a ≤ 9223372036854775807) (w1 : 0 ≤ w0) (w2 : w0 ≤ 18446744073709551615) : Calls Try.prog 4 #[.int .i64 a, .int .u64 w0] w fun e w' => e = .returned (.bool true) ∧ Below w.heap.size w w' := by
  have e0 := okE_0 (ptrOk a)
  have e2 := okE_2 (ptrOk a)
  go_enter Try.func4, Try.ntmps4
  go_wp2_with (first | (go_at_call 15; refine (awake02 _).mono ?_; rintro e w' ⟨rfl, hb⟩) | (go_at_call 21; refine (Ptr_c _ _ a1 a2).mono ?_; rintro e w' ⟨rfl, rfl⟩) | (go_at_call 22; refine (rPtr_c _ _ a1 a2).mono ?_; rintro e w' ⟨rfl, rfl⟩) | (go_at_call 23; refine (At_c _ _ w1 w2).mono ?_; rintro e w' ⟨rfl, rfl⟩) | (go_at_call 24; refine (rAt_c _ _ w1 w2).mono ?_; rintro e w' ⟨rfl, rfl⟩))
  go_ret
  exact ⟨rfl, hb⟩
theorem wordPtrs_own : ownKnob Try.prog.godebug = none := by kernel_rfl
theorem wordPtrs_laidOut : laidOutB Try.prog = true := by kernel_rfl
set_option maxRecDepth 100000 in
theorem wordPtrs_lifted (os : Os) (started : os.Started) (H : Type) (enc : TypeId × Value → H) :
    ReturnsInHanded {} Try.checked os 4 .any (Rows.wordPtrsSpec.pre6 enc Try.prog Try.f4 Rows.wordPtrsRow.domain false) (Rows.wordPtrsSpec.post enc Try.prog Try.f4 false true false false) := by
  refine returnsInHanded_of_change_sized (C := Try.checked) wordPtrs_own started (by kernel_rfl) Try.func4
    (ChangeSpec.witness6 (enc := enc) (C := Try.checked) false ⟨#[], #[.int .i64 0, .int .u64 0], []⟩ 8 (by kernel_rfl) (by kernel_rfl) (by kernel_rfl) (by kernel_rfl)) ?_
  intro W base args ds gs before hval0 hW hcnd hsz0 _
  have hval : ∀ (j : Nat) t v, Try.f4.params[j]? = some t → args[j]? = some v → Value.okWide Try.prog W .any base t v := hval0
  have hsz : (DataW.weightsEach Try.prog (Try.f4.params.toList ++ Rows.wordPtrsSpec.plain.varTypes Try.prog) (ds ++ gs)).all (· ≤ reachBytes) = true := hsz0
  have hW' := hW
  obtain ⟨p, q, hA0, hV, rfl, hfz, hnd⟩ := hW
  have hA : DataW.TrodAll enc Try.prog W 0 (fun _ => true) true Try.f4.params.toList args.toList ds p := hA0
  rw [Try.params4] at hA hval hsz
  obtain ⟨rfl, rfl⟩ := trodVars_none hV
  obtain ⟨v0, v1, d0, d1, p0, p1, rfl, rfl, rfl, h0, h1⟩ := trodAll_two hA
  obtain ⟨a, rfl, rfl, rfl, w_a⟩ := open_int Try.underlying3 (hval 0 3 v0 rfl rfl) h0
  have bd_a := Go.bounds_i64 w_a
  obtain ⟨u, rfl, rfl, rfl, w_u⟩ := open_int Try.underlying22 (hval 1 22 v1 rfl rfl) h1
  have bd_u := Go.bounds_u64 w_u
  refine (WordPtrs_c a u W (by omega) (by omega) (by omega) (by omega)).mono fun e W' ⟨he, hb⟩ => ?_
  subst he
  exact ⟨_, rfl, law_post (tb := 4) wordPtrs_laidOut (by kernel_rfl) (by kernel_rfl) Try.underlying4 rfl rfl rfl rfl hW' hb⟩
theorem wordPtrs_holds : Rows.WordPtrsSaid :=
  OpenClaim.holds_of_wide 4 Try.f4 rfl rfl rfl rfl rfl rfl rfl ⟨rfl, rfl, rfl, rfl, rfl⟩ rfl rfl rfl rfl rfl (by kernel_rfl) Try.func4 (by kernel_rfl)
    (of_decide_eq_true (by kernel_rfl)) (by unfold Func.isWrapper; first | (rw [if_pos (by decide +kernel)]; kernel_rfl) | (rw [if_neg (by decide +kernel)]; exact ⟨rfl, rfl⟩))
    (fun os started H enc _ => wordPtrs_lifted os started H enc)
#print axioms wordPtrs_holds
end Go.Proofs.Ythibocdpbekbcaa
