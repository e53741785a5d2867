/- TreeMeasures: any expression has the document's size and depth. -/
import Derived.Test.YtjgjnheeohfmmaaChecked
import Derived.Test.YtjgjnheeohfmmaaRows
import Derived.Test.YtjgjnheeohfmmaaOE
import Derived.Test.YtjgjnheeohfmmaaB05q
namespace Go.Proofs.Ytjgjnheeohfmmaa
open Go.ChangeShapes Go.WideShapes Go.ChangeAt Go.RowKit
set_option maxHeartbeats 4000000 in
set_option maxRecDepth 100000 in
theorem TreeMeasures_c (e : Ex) (hL : e.Lim) : ACall Try.prog 7 [.agg e.cells] [] (fun v _ => v = .val (.bool true)) := by
  have HM := Small5_c e 1000 hL (by omega) (by omega)
  have hle := Ex.sz_le e
  have H1 := fun (h : e.sz ≤ 1000000000) => Size_c e h
  have H2 := fun (h : e.sz ≤ 1000000000) => rSize_c e h
  have H3 := fun (h : e.sz ≤ 1000000000) => Deep_c e h
  have H4 := fun (h : e.sz ≤ 1000000000) => rDeep_c e h
  generalize e.full = f at *
  generalize e.sz = sz at *
  generalize e.dp = dp at *
  obtain ⟨k, s, n, ⟨tk, ts, tn, tks⟩, ks, al, bs, p⟩ := e
  refine ACall.enter Try.func7 rfl (by kernel_rfl) rfl (Nat.le_of_ble_eq_true rfl) ?_
  refine c_start ?_
  refine c_seq ?_
  refine c_region ?_
  refine AOps.st 1 rfl rfl rfl (op_boxc (cs' := [_, _, _, _, _, _, _, _, _, _, _]) rfl rfl rfl rfl ?_)
  refine AOps.st 2 rfl rfl rfl (op_assign rfl rfl ?_)
  refine AOps.nil ?_
  refine go_code ?_
  refine c_seq ?_
  refine c_seq ?_
  refine c_region ?_
  refine AOps.st 3 rfl rfl rfl (op_callp (xs := []) rfl rfl (awake05_c) (by first | exact Les.refl _ | (repeat' (first | exact Les.refl _ | refine Les.cons ?_ ?_ | exact Le.refl _ | exact Le.own _ _ _ | exact Le.nil _ | refine Le.agg ?_))) ?_)
  refine AOps.st 4 rfl rfl rfl (op_notc rfl rfl ?_); intro c4 h4
  try replace h4 := nott h4 h3
  refine AOps.nil ?_
  refine go_code ?_
  rcases bool_split h4 with ⟨rfl, g4⟩ | ⟨rfl, g4⟩
  · refine c_cond_f rfl ?_
    refine c_skip ?_
    refine go_code ?_
    refine c_seq ?_
    refine c_seq ?_
    refine c_region ?_
    refine AOps.st 5 rfl rfl rfl (op_load_c (cs' := [_, _, _, _, _, _, _, _, _, _, _]) rfl ta_60 rfl rfl rfl ?_)
    refine AOps.st 6 rfl rfl rfl (op_callb (xs := [.tmp 5, .const (.int .i64 1000)]) rfl rfl (HM) (by first | exact Les.refl _ | (repeat' (first | exact Les.refl _ | refine Les.cons ?_ ?_ | exact Le.refl _ | exact Le.own _ _ _ | exact Le.nil _ | refine Le.agg ?_))) ?_); intro c6 h6
    refine AOps.st 7 rfl rfl rfl (op_notc rfl rfl ?_); intro c7 h7
    try replace h7 := nott h7 h6
    refine AOps.nil ?_
    refine go_code ?_
    rcases bool_split h7 with ⟨rfl, g7⟩ | ⟨rfl, g7⟩
    · refine c_cond_f rfl ?_
      refine c_skip ?_
      refine go_code ?_
      refine c_seq ?_
      refine c_boold 2 (True) tmix rfl ?_ _ _ rfl ?_
      · skip
        refine DOps.st 8 rfl rfl (op_load_c (cs' := [_, _, _, _, _, _, _, _, _, _, _]) rfl ta_60 rfl rfl rfl ⟨rfl, rfl⟩) ?_
        refine DOps.st 9 rfl rfl (op_callp (xs := [.tmp 8]) rfl rfl (H1 (by omega)) (by first | exact Les.refl _ | (repeat' (first | exact Les.refl _ | refine Les.cons ?_ ?_ | exact Le.refl _ | exact Le.own _ _ _ | exact Le.nil _ | refine Le.agg ?_))) ⟨rfl, rfl⟩) ?_
        refine DOps.st 10 rfl rfl (op_load_c (cs' := [_, _, _, _, _, _, _, _, _, _, _]) rfl ta_60 rfl rfl rfl ⟨rfl, rfl⟩) ?_
        refine DOps.st 11 rfl rfl (op_callp (xs := [.tmp 10]) rfl rfl (H2 (by omega)) (by first | exact Les.refl _ | (repeat' (first | exact Les.refl _ | refine Les.cons ?_ ?_ | exact Le.refl _ | exact Le.own _ _ _ | exact Le.nil _ | refine Le.agg ?_))) ⟨rfl, rfl⟩) ?_
        refine DOps.cm 12 rfl rfl (fun _ q => op_eql rfl rfl rfl q) ?_; intro c12 h12
        refine DOps.st 13 rfl rfl (op_move rfl rfl ⟨rfl, rfl⟩) ?_
        rcases bool_split h12 with ⟨rfl, g12⟩ | ⟨rfl, g12⟩
        · skip
          refine DOps.gf 14 rfl rfl rfl rfl ?_
          refine DOps.gf 15 rfl rfl rfl rfl ?_
          refine DOps.gf 16 rfl rfl rfl rfl ?_
          refine DOps.gf 17 rfl rfl rfl rfl ?_
          refine DOps.gf 18 rfl rfl rfl rfl ?_
          refine DOps.st 19 rfl rfl (op_pick rfl rfl rfl ⟨rfl, rfl⟩) ?_
          refine DOps.st 2 rfl rfl (op_assign rfl rfl ⟨rfl, rfl⟩) ?_
          show BoolQ _ _ _ _ _ _
          refine BoolQ.mk rfl ?_ (by repeat' (first | exact SLe.wo _ _ | exact SLe.refl _ | refine SLe.fresh rfl ?_)) (by first | exact MLe.none _ | exact MLe.refl _ | (repeat' (first | exact MLe.nil | exact MLe.refl _ | refine MLe.cons _ ?_ | refine MLe.drop _ ?_)))
          first | exact iff_t trivial | (simp_all; done)
        · skip
          refine DOps.gt 14 rfl rfl rfl rfl (op_load_c (cs' := [_, _, _, _, _, _, _, _, _, _, _]) rfl ta_60 rfl rfl rfl ⟨rfl, rfl⟩) ?_
          refine DOps.gt 15 rfl rfl rfl rfl (op_callp (xs := [.tmp 14]) rfl rfl (H3 (by omega)) (by first | exact Les.refl _ | (repeat' (first | exact Les.refl _ | refine Les.cons ?_ ?_ | exact Le.refl _ | exact Le.own _ _ _ | exact Le.nil _ | refine Le.agg ?_))) ⟨rfl, rfl⟩) ?_
          refine DOps.gt 16 rfl rfl rfl rfl (op_load_c (cs' := [_, _, _, _, _, _, _, _, _, _, _]) rfl ta_60 rfl rfl rfl ⟨rfl, rfl⟩) ?_
          refine DOps.gt 17 rfl rfl rfl rfl (op_callp (xs := [.tmp 16]) rfl rfl (H4 (by omega)) (by first | exact Les.refl _ | (repeat' (first | exact Les.refl _ | refine Les.cons ?_ ?_ | exact Le.refl _ | exact Le.own _ _ _ | exact Le.nil _ | refine Le.agg ?_))) ⟨rfl, rfl⟩) ?_
          refine DOps.gtc 18 rfl rfl rfl rfl (fun _ q => op_eql rfl rfl rfl q) ?_; intro c18 h18
          refine DOps.st 19 rfl rfl (op_pick rfl rfl rfl ⟨rfl, rfl⟩) ?_
          refine DOps.st 2 rfl rfl (op_assign rfl rfl ⟨rfl, rfl⟩) ?_
          show BoolQ _ _ _ _ _ _
          refine BoolQ.mk rfl ?_ (by repeat' (first | exact SLe.wo _ _ | exact SLe.refl _ | refine SLe.fresh rfl ?_)) (by first | exact MLe.none _ | exact MLe.refl _ | (repeat' (first | exact MLe.nil | exact MLe.refl _ | refine MLe.cons _ ?_ | refine MLe.drop _ ?_)))
          first | exact iff_t trivial | (simp_all; done)
      intro c2 h2
      refine go_code ?_
      refine c_ret ?_
      exact out_tmp rfl rfl (Le.refl _) (by first | exact MLe.none _ | exact MLe.refl _ | (repeat' (first | exact MLe.nil | exact MLe.refl _ | refine MLe.cons _ ?_ | refine MLe.drop _ ?_))) (by rw [h2.2 trivial])
    · refine c_cond_t rfl ?_
      refine c_seq ?_
      refine c_region ?_
      refine AOps.st 2 rfl rfl rfl (op_assign rfl rfl ?_)
      refine AOps.nil ?_
      refine go_code ?_
      refine c_ret ?_
      exact out_tmp rfl rfl (Le.refl _) (by first | exact MLe.none _ | exact MLe.refl _ | (repeat' (first | exact MLe.nil | exact MLe.refl _ | refine MLe.cons _ ?_ | refine MLe.drop _ ?_))) rfl
  · refine c_cond_t rfl ?_
    refine c_seq ?_
    exact absurd g4 (by simp)
theorem treeMeasures_own : ownKnob Try.prog.godebug = none := by kernel_rfl
theorem treeMeasures_laidOut : laidOutB Try.prog = true := by kernel_rfl
set_option maxRecDepth 100000 in
theorem treeMeasures_lifted (os : Os) (started : os.Started) (H : Type) (enc : TypeId × Value → H) :
    ReturnsInHanded {} Try.checked os 7 .any (Rows.treeMeasuresSpec.pre6 enc Try.prog Try.f7 Rows.treeMeasuresRow.domain false) (Rows.treeMeasuresSpec.post enc Try.prog Try.f7 false true false false) := by
  refine returnsInHanded_of_change_sized (C := Try.checked) treeMeasures_own started (by kernel_rfl) Try.func7
    (ChangeSpec.witness6 (enc := enc) (C := Try.checked) false ⟨#[], #[.agg #[.int .i64 0, .string ⟨#[]⟩, .int .i64 0, .int .i64 0, .string ⟨#[]⟩, .int .i64 0, .slice none 0 0, .slice none 0 0, .slice none 0 0, .slice none 0 0, .int .i64 0]], []⟩ 8 (by kernel_rfl) (by kernel_rfl) (by kernel_rfl) (by kernel_rfl)) ?_
  intro W base args ds gs before hval0 hW hcnd hsz0 _
  have hval : ∀ (j : Nat) t v, Try.f7.params[j]? = some t → args[j]? = some v → Value.okWide Try.prog W .any base t v := hval0
  have hsz : (DataW.weightsEach Try.prog (Try.f7.params.toList ++ Rows.treeMeasuresSpec.plain.varTypes Try.prog) (ds ++ gs)).all (· ≤ reachBytes) = true := hsz0
  have hW' := hW
  obtain ⟨p, q, hA0, hV, rfl, hfz, hnd⟩ := hW
  have hA : DataW.TrodAll enc Try.prog W 0 (fun _ => true) true Try.f7.params.toList args.toList ds p := hA0
  rw [Try.params7] at hA hval hsz
  obtain ⟨rfl, rfl⟩ := trodVars_none hV
  obtain ⟨v0, d0, rfl, rfl, h0⟩ := trodAll_one hA
  obtain ⟨f0, c0, s0, r0, o0, _⟩ := open_two closed05 hsz 0 rfl rfl (by decide) h0
  obtain ⟨e, rfl, hL⟩ := shapeL_ex _ (by decide) _ _ s0
  refine (law_run (TreeMeasures_c e hL) (.cons (rel_agg' (by rw [Ex.cells_len]; decide) r0 o0) .nil)).mono fun e W' ⟨he, hb⟩ => ?_
  subst he
  exact ⟨_, rfl, law_post (tb := 4) treeMeasures_laidOut (by kernel_rfl) (by kernel_rfl) Try.underlying4 rfl rfl rfl rfl hW' hb⟩
theorem treeMeasures_holds : Rows.TreeMeasuresSaid :=
  OpenClaim.holds_of_wide 7 Try.f7 rfl rfl rfl rfl rfl rfl rfl ⟨rfl, rfl, rfl, rfl, rfl⟩ rfl rfl rfl rfl rfl (by kernel_rfl) Try.func7 (by kernel_rfl)
    (of_decide_eq_true (by kernel_rfl)) (by unfold Func.isWrapper; first | (rw [if_pos (by decide +kernel)]; kernel_rfl) | (rw [if_neg (by decide +kernel)]; exact ⟨rfl, rfl⟩))
    (fun os started H enc _ => treeMeasures_lifted os started H enc)
#print axioms treeMeasures_holds
end Go.Proofs.Ytjgjnheeohfmmaa
