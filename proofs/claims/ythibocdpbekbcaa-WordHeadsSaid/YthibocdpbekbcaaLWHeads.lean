/- WordHeads returns true for every input: any parts have the reference's head, or none, and any word its parts, or none. -/
import Derived.Test.YthibocdpbekbcaaW02a
import Derived.Test.YthibocdpbekbcaaL00
import Derived.Test.YthibocdpbekbcaaRows
import Derived.Lib.SmallJoins
namespace Go.Proofs.Ythibocdpbekbcaa
open Go.ChangeShapes Go.WideShapes Go.ChangeAt Go.RowKit Go.Joins
set_option maxHeartbeats 400000 in
theorem WordHeads_c (k t s w0 : Int) (w : World) (k1 : -9223372036854775808 ≤ k) (k2 : k ≤ 9223372036854775807) (t1 : -9223372036854775808 ≤ t) (t2 : t ≤ 9223372036854775807) (s1 : -9223372036854775808 ≤ s) (s2 : s ≤ 9223372036854775807) (w1 : 0 ≤ w0) (w2 : w0 ≤ 18446744073709551615) : Calls Try.prog 5 #[.agg #[.int .i64 k, .int .i64 t, .int .i64 s], .int .u64 w0] w fun e w' => e = .returned (.bool true) ∧ Below w.heap.size w w' := by
  have e0 := okE_0 (headOk k t s)
  have e2 := okE_2 (headOk k t s)
  go_enter Try.func5, Try.ntmps5
  go_wp2_with (first | (go_at_call 15; refine (awake02 _).mono ?_; rintro e w' ⟨rfl, hb⟩; have c0 : w'.cell? ⟨w.heap.size, 0, none⟩ = some (.int .i64 k) := (hb.cell (by simp)).trans (by simp); have c1 : w'.cell? ⟨w.heap.size, 1, none⟩ = some (.int .i64 t) := (hb.cell (by simp)).trans (by simp); have c2 : w'.cell? ⟨w.heap.size, 2, none⟩ = some (.int .i64 s) := (hb.cell (by simp)).trans (by simp)) | (go_at_call 25; refine (Head_c _ _ _ _ k1 k2 t1 t2 s1 s2).mono ?_; rintro e w' ⟨rfl, rfl⟩) | (go_at_call 26; refine (rHead_c _ _ _ _ k1 k2 t1 t2 s1 s2).mono ?_; rintro e w' ⟨rfl, rfl⟩) | (go_at_call 27; refine (Open_c _ _ w1 w2).mono ?_; rintro e w' ⟨rfl, rfl⟩) | (go_at_call 28; refine (rOpen_c _ _ w1 w2).mono ?_; rintro e w' ⟨rfl, rfl⟩))
  go_ret
  exact ⟨rfl, ((Below.refl _ _).alloc (Nat.le_refl _) _).trans (hb.mono (by simp))⟩
theorem cellsParts : Try.prog.cellsOf 38 = 3 := by kernel_rfl
theorem wordHeads_own : ownKnob Try.prog.godebug = none := by kernel_rfl
theorem wordHeads_laidOut : laidOutB Try.prog = true := by kernel_rfl
set_option maxRecDepth 100000 in
theorem wordHeads_lifted (os : Os) (started : os.Started) (H : Type) (enc : TypeId × Value → H) :
    ReturnsInHanded {} Try.checked os 5 .any (Rows.wordHeadsSpec.pre6 enc Try.prog Try.f5 Rows.wordHeadsRow.domain false) (Rows.wordHeadsSpec.post enc Try.prog Try.f5 false true false false) := by
  refine returnsInHanded_of_change_sized (C := Try.checked) wordHeads_own started (by kernel_rfl) Try.func5
    (ChangeSpec.witness6 (enc := enc) (C := Try.checked) false ⟨#[], #[.agg #[.int .i64 0, .int .i64 0, .int .i64 0], .int .u64 0], []⟩ 8 (by kernel_rfl) (by kernel_rfl) (by kernel_rfl) (by kernel_rfl)) ?_
  intro W base args ds gs before hval0 hW hcnd hsz0 _
  have hval : ∀ (j : Nat) t v, Try.f5.params[j]? = some t → args[j]? = some v → Value.okWide Try.prog W .any base t v := hval0
  have hsz : (DataW.weightsEach Try.prog (Try.f5.params.toList ++ Rows.wordHeadsSpec.plain.varTypes Try.prog) (ds ++ gs)).all (· ≤ reachBytes) = true := hsz0
  have hW' := hW
  obtain ⟨p, q, hA0, hV, rfl, hfz, hnd⟩ := hW
  have hA : DataW.TrodAll enc Try.prog W 0 (fun _ => true) true Try.f5.params.toList args.toList ds p := hA0
  rw [Try.params5] at hA hval hsz
  obtain ⟨rfl, rfl⟩ := trodVars_none hV
  obtain ⟨v0, v1, d0, d1, p0, p1, rfl, rfl, rfl, h0, h1⟩ := trodAll_two hA
  obtain ⟨c0, c1, c2, y0, y1, y2, m, rfl, rfl, rfl, hy0, hy1, hy2⟩ := open_agg3 Try.underlying38 (by kernel_rfl) cellsParts (hval 0 38 v0 rfl rfl) h0
  obtain ⟨k, e0, rfl, wk⟩ := DataW.trod_int Try.underlying3 hy0
  obtain ⟨t, e1, rfl, wt⟩ := DataW.trod_int Try.underlying3 hy1
  obtain ⟨s, e2, rfl, ws⟩ := DataW.trod_int Try.underlying3 hy2
  simp at e0 e1 e2
  subst e0 e1 e2
  obtain ⟨u, rfl, rfl, rfl, w_u⟩ := open_int Try.underlying22 (hval 1 22 v1 rfl rfl) h1
  have bd_u := Go.bounds_u64 w_u
  have bd_k := Go.bounds_i64 wk
  have bd_t := Go.bounds_i64 wt
  have bd_s := Go.bounds_i64 ws
  refine (WordHeads_c k t s u W (by omega) (by omega) (by omega) (by omega) (by omega) (by omega) (by omega) (by omega)).mono fun e W' ⟨he, hb⟩ => ?_
  subst he
  exact ⟨_, rfl, law_post (tb := 4) wordHeads_laidOut (by kernel_rfl) (by kernel_rfl) Try.underlying4 rfl rfl rfl rfl hW' hb⟩
theorem wordHeads_holds : Rows.WordHeadsSaid :=
  OpenClaim.holds_of_wide 5 Try.f5 rfl rfl rfl rfl rfl rfl rfl ⟨rfl, rfl, rfl, rfl, rfl⟩ rfl rfl rfl rfl rfl (by kernel_rfl) Try.func5 (by kernel_rfl)
    (of_decide_eq_true (by kernel_rfl)) (by unfold Func.isWrapper; first | (rw [if_pos (by decide +kernel)]; kernel_rfl) | (rw [if_neg (by decide +kernel)]; exact ⟨rfl, rfl⟩))
    (fun os started H enc _ => wordHeads_lifted os started H enc)
#print axioms wordHeads_holds
end Go.Proofs.Ythibocdpbekbcaa
