/- CodeRights: any code is right just if the document says so; any two are the same just if it says so. -/
import Derived.Test.YtadhakcmfkghbaaChecked
import Derived.Test.YtadhakcmfkghbaaRows
import Derived.Test.YtadhakcmfkghbaaL00
import Derived.Test.YtadhakcmfkghbaaOD
import Derived.Test.YtadhakcmfkghbaaB29b
namespace Go.Proofs.Ytadhakcmfkghbaa
open Go.ChangeShapes Go.WideShapes Go.ChangeAt Go.RowKit
theorem rel_agg' {F : EH} {v : Value} {cs : List AV} (hl : cs.length ≠ 1) (h : Rels F cs v.cells.toList) (h1 : Ones v.cells.toList) : Rel F (.agg cs) v := by
  refine rel_agg ?_ h h1
  have := h.len
  cases v <;> first | exact ⟨_, rfl⟩ | (exfalso; exact hl (by rw [this]; rfl))
theorem bool_same {a b : Bool} {p : Prop} (ha : a = true ↔ p) (hb : b = true ↔ p) : a = b := by
  cases a <;> cases b <;> simp_all
set_option maxHeartbeats 4000000 in
set_option maxRecDepth 100000 in
theorem CodeRights_c (a b : Cd) (hLa : a.Lim) : ACall Try.prog 3 [.agg a.cells, .agg b.cells] [] (fun v _ => v = .val (.bool true)) := by
  have HA := Small29_z a 20000
  have HB := Small29_z b 20000
  have H1 := Right_c a hLa
  have H2 := rRight_c a hLa
  have H3 := Same29_c a b
  have H4 := rSame29_c a b
  have H5 := (Same29_c a a).yes rfl
  generalize RightP a = K1 at *
  generalize (a = b) = K2 at *
  obtain ⟨is1, fu1, tx1, gl1, ys1, no1⟩ := a
  obtain ⟨is2, fu2, tx2, gl2, ys2, no2⟩ := b
  refine ACall.enter Try.func3 rfl (by kernel_rfl) rfl (Nat.le_of_ble_eq_true rfl) ?_
  refine c_start ?_
  refine c_seq ?_
  refine c_region ?_
  refine AOps.st 2 rfl rfl rfl (op_boxc (cs' := [_, _, _, _, _, _]) rfl rfl rfl rfl ?_)
  refine AOps.st 3 rfl rfl rfl (op_boxc (cs' := [_, _, _, _, _, _]) rfl rfl rfl rfl ?_)
  refine AOps.st 4 rfl rfl rfl (op_assign rfl rfl ?_)
  refine AOps.nil ?_
  refine go_code ?_
  refine c_seq ?_
  refine c_seq ?_
  refine c_region ?_
  refine AOps.st 5 rfl rfl rfl (op_callp (xs := []) rfl rfl (awake29_c) (by first | exact Les.refl _ | (repeat' (first | exact Les.refl _ | refine Les.cons ?_ ?_ | exact Le.refl _ | exact Le.own _ _ _ | exact Le.nil _ | refine Le.agg ?_))) ?_)
  refine AOps.st 6 rfl rfl rfl (op_notc rfl rfl ?_); intro c6 h6
  try replace h6 := nott h6 h5
  refine AOps.nil ?_
  refine go_code ?_
  rcases bool_split h6 with ⟨rfl, g6⟩ | ⟨rfl, g6⟩
  · refine c_cond_f rfl ?_
    refine c_skip ?_
    refine go_code ?_
    refine c_seq ?_
    refine c_seq ?_
    refine c_region ?_
    refine AOps.st 7 rfl rfl rfl (op_load_c (cs' := [_, _, _, _, _, _]) rfl ta_26 rfl rfl rfl ?_)
    refine AOps.st 8 rfl rfl rfl (op_callz (xs := [.tmp 7, .const (.int .i64 20000)]) rfl rfl (HA) (by first | exact Les.refl _ | (repeat' (first | exact Les.refl _ | refine Les.cons ?_ ?_ | exact Le.refl _ | exact Le.own _ _ _ | exact Le.nil _ | refine Le.agg ?_))) ?_); intro c8 h8
    refine AOps.st 9 rfl rfl rfl (op_notc rfl rfl ?_); intro c9 h9
    try replace h9 := nott h9 h8
    refine AOps.st 10 rfl rfl rfl (op_move rfl rfl ?_)
    rcases bool_split h9 with ⟨rfl, g9⟩ | ⟨rfl, g9⟩
    · skip
      refine AOps.gt 11 rfl rfl rfl rfl rfl (op_load_c (cs' := [_, _, _, _, _, _]) rfl ta_26 rfl rfl rfl ?_)
      refine AOps.gt 12 rfl rfl rfl rfl rfl (op_callz (xs := [.tmp 11, .const (.int .i64 20000)]) rfl rfl (HB) (by first | exact Les.refl _ | (repeat' (first | exact Les.refl _ | refine Les.cons ?_ ?_ | exact Le.refl _ | exact Le.own _ _ _ | exact Le.nil _ | refine Le.agg ?_))) ?_); intro c12 h12
      refine AOps.gt 13 rfl rfl rfl rfl rfl (op_notc rfl rfl ?_); intro c13 h13
      try replace h13 := nott h13 h12
      refine AOps.st 14 rfl rfl rfl (op_pick rfl rfl rfl ?_)
      refine AOps.nil ?_
      refine go_code ?_
      rcases bool_split h13 with ⟨rfl, g13⟩ | ⟨rfl, g13⟩
      · refine c_cond_f rfl ?_
        refine c_skip ?_
        refine go_code ?_
        refine c_seq ?_
        refine c_boold 4 (True) tmix rfl ?_ _ _ rfl ?_
        · skip
          refine DOps.st 15 rfl rfl (op_load_c (cs' := [_, _, _, _, _, _]) rfl ta_26 rfl rfl rfl ⟨rfl, rfl⟩) ?_
          refine DOps.cm 16 rfl rfl (fun _ q => op_callb (xs := [.tmp 15]) rfl rfl (H1) (by first | exact Les.refl _ | (repeat' (first | exact Les.refl _ | refine Les.cons ?_ ?_ | exact Le.refl _ | exact Le.own _ _ _ | exact Le.nil _ | refine Le.agg ?_))) q) ?_; intro c16 h16
          refine DOps.st 17 rfl rfl (op_load_c (cs' := [_, _, _, _, _, _]) rfl ta_26 rfl rfl rfl ⟨rfl, rfl⟩) ?_
          refine DOps.cm 18 rfl rfl (fun _ q => op_callb (xs := [.tmp 17]) rfl rfl (H2) (by first | exact Les.refl _ | (repeat' (first | exact Les.refl _ | refine Les.cons ?_ ?_ | exact Le.refl _ | exact Le.own _ _ _ | exact Le.nil _ | refine Le.agg ?_))) q) ?_; intro c18 h18
          refine DOps.cm 19 rfl rfl (fun _ q => op_beqlc rfl tu_4 rfl rfl q) ?_; intro c19 h19
          refine DOps.st 20 rfl rfl (op_move rfl rfl ⟨rfl, rfl⟩) ?_
          rcases bool_split h19 with ⟨rfl, g19⟩ | ⟨rfl, g19⟩
          · skip
            refine DOps.gf 21 rfl rfl rfl rfl ?_
            refine DOps.gf 22 rfl rfl rfl rfl ?_
            refine DOps.gf 23 rfl rfl rfl rfl ?_
            refine DOps.gf 24 rfl rfl rfl rfl ?_
            refine DOps.gf 25 rfl rfl rfl rfl ?_
            refine DOps.gf 26 rfl rfl rfl rfl ?_
            refine DOps.gf 27 rfl rfl rfl rfl ?_
            refine DOps.st 28 rfl rfl (op_pick rfl rfl rfl ⟨rfl, rfl⟩) ?_
            refine DOps.st 29 rfl rfl (op_move rfl rfl ⟨rfl, rfl⟩) ?_
            refine DOps.gf 30 rfl rfl rfl rfl ?_
            refine DOps.gf 31 rfl rfl rfl rfl ?_
            refine DOps.gf 32 rfl rfl rfl rfl ?_
            refine DOps.st 33 rfl rfl (op_pick rfl rfl rfl ⟨rfl, rfl⟩) ?_
            refine DOps.st 4 rfl rfl (op_assign rfl rfl ⟨rfl, rfl⟩) ?_
            show BoolQ _ _ _ _ _ _
            refine BoolQ.mk rfl ?_ (by repeat' (first | exact SLe.wo _ _ | exact SLe.refl _ | refine SLe.fresh rfl ?_)) (by first | exact MLe.none _ | exact MLe.refl _ | (repeat' (first | exact MLe.nil | exact MLe.refl _ | refine MLe.cons _ ?_ | refine MLe.drop _ ?_)))
            first | exact absurd (bool_same h16 h18) g19 | exact absurd (bool_same h23 h26) g27 | (simp_all; done)
          · skip
            refine DOps.gt 21 rfl rfl rfl rfl (op_load_c (cs' := [_, _, _, _, _, _]) rfl ta_26 rfl rfl rfl ⟨rfl, rfl⟩) ?_
            refine DOps.gt 22 rfl rfl rfl rfl (op_load_c (cs' := [_, _, _, _, _, _]) rfl ta_26 rfl rfl rfl ⟨rfl, rfl⟩) ?_
            refine DOps.gtc 23 rfl rfl rfl rfl (fun _ q => op_callb (xs := [.tmp 21, .tmp 22]) rfl rfl (H3) (by first | exact Les.refl _ | (repeat' (first | exact Les.refl _ | refine Les.cons ?_ ?_ | exact Le.refl _ | exact Le.own _ _ _ | exact Le.nil _ | refine Le.agg ?_))) q) ?_; intro c23 h23
            refine DOps.gt 24 rfl rfl rfl rfl (op_load_c (cs' := [_, _, _, _, _, _]) rfl ta_26 rfl rfl rfl ⟨rfl, rfl⟩) ?_
            refine DOps.gt 25 rfl rfl rfl rfl (op_load_c (cs' := [_, _, _, _, _, _]) rfl ta_26 rfl rfl rfl ⟨rfl, rfl⟩) ?_
            refine DOps.gtc 26 rfl rfl rfl rfl (fun _ q => op_callb (xs := [.tmp 24, .tmp 25]) rfl rfl (H4) (by first | exact Les.refl _ | (repeat' (first | exact Les.refl _ | refine Les.cons ?_ ?_ | exact Le.refl _ | exact Le.own _ _ _ | exact Le.nil _ | refine Le.agg ?_))) q) ?_; intro c26 h26
            refine DOps.gtc 27 rfl rfl rfl rfl (fun _ q => op_beqlc rfl tu_4 rfl rfl q) ?_; intro c27 h27
            refine DOps.st 28 rfl rfl (op_pick rfl rfl rfl ⟨rfl, rfl⟩) ?_
            refine DOps.st 29 rfl rfl (op_move rfl rfl ⟨rfl, rfl⟩) ?_
            rcases bool_split h27 with ⟨rfl, g27⟩ | ⟨rfl, g27⟩
            · skip
              refine DOps.gf 30 rfl rfl rfl rfl ?_
              refine DOps.gf 31 rfl rfl rfl rfl ?_
              refine DOps.gf 32 rfl rfl rfl rfl ?_
              refine DOps.st 33 rfl rfl (op_pick rfl rfl rfl ⟨rfl, rfl⟩) ?_
              refine DOps.st 4 rfl rfl (op_assign rfl rfl ⟨rfl, rfl⟩) ?_
              show BoolQ _ _ _ _ _ _
              refine BoolQ.mk rfl ?_ (by repeat' (first | exact SLe.wo _ _ | exact SLe.refl _ | refine SLe.fresh rfl ?_)) (by first | exact MLe.none _ | exact MLe.refl _ | (repeat' (first | exact MLe.nil | exact MLe.refl _ | refine MLe.cons _ ?_ | refine MLe.drop _ ?_)))
              first | exact absurd (bool_same h16 h18) g19 | exact absurd (bool_same h23 h26) g27 | (simp_all; done)
            · skip
              refine DOps.gt 30 rfl rfl rfl rfl (op_load_c (cs' := [_, _, _, _, _, _]) rfl ta_26 rfl rfl rfl ⟨rfl, rfl⟩) ?_
              refine DOps.gt 31 rfl rfl rfl rfl (op_load_c (cs' := [_, _, _, _, _, _]) rfl ta_26 rfl rfl rfl ⟨rfl, rfl⟩) ?_
              refine DOps.gt 32 rfl rfl rfl rfl (op_callp (xs := [.tmp 30, .tmp 31]) rfl rfl (H5) (by first | exact Les.refl _ | (repeat' (first | exact Les.refl _ | refine Les.cons ?_ ?_ | exact Le.refl _ | exact Le.own _ _ _ | exact Le.nil _ | refine Le.agg ?_))) ⟨rfl, rfl⟩) ?_
              refine DOps.st 33 rfl rfl (op_pick rfl rfl rfl ⟨rfl, rfl⟩) ?_
              refine DOps.st 4 rfl rfl (op_assign rfl rfl ⟨rfl, rfl⟩) ?_
              show BoolQ _ _ _ _ _ _
              refine BoolQ.mk rfl ?_ (by repeat' (first | exact SLe.wo _ _ | exact SLe.refl _ | refine SLe.fresh rfl ?_)) (by first | exact MLe.none _ | exact MLe.refl _ | (repeat' (first | exact MLe.nil | exact MLe.refl _ | refine MLe.cons _ ?_ | refine MLe.drop _ ?_)))
              first | exact absurd (bool_same h16 h18) g19 | exact absurd (bool_same h23 h26) g27 | (simp_all; done)
        intro c4 h4
        refine go_code ?_
        refine c_ret ?_
        exact out_tmp rfl rfl (Le.refl _) (by first | exact MLe.none _ | exact MLe.refl _ | (repeat' (first | exact MLe.nil | exact MLe.refl _ | refine MLe.cons _ ?_ | refine MLe.drop _ ?_))) (by simp_all)
      · refine c_cond_t rfl ?_
        refine c_seq ?_
        refine c_region ?_
        refine AOps.st 4 rfl rfl rfl (op_assign rfl rfl ?_)
        refine AOps.nil ?_
        refine go_code ?_
        refine c_ret ?_
        exact out_tmp rfl rfl (Le.refl _) (by first | exact MLe.none _ | exact MLe.refl _ | (repeat' (first | exact MLe.nil | exact MLe.refl _ | refine MLe.cons _ ?_ | refine MLe.drop _ ?_))) rfl
    · skip
      refine AOps.gf 11 rfl rfl rfl rfl rfl ?_
      refine AOps.gf 12 rfl rfl rfl rfl rfl ?_
      refine AOps.gf 13 rfl rfl rfl rfl rfl ?_
      refine AOps.st 14 rfl rfl rfl (op_pick rfl rfl rfl ?_)
      refine AOps.nil ?_
      refine go_code ?_
      refine c_cond_t rfl ?_
      refine c_seq ?_
      refine c_region ?_
      refine AOps.st 4 rfl rfl rfl (op_assign rfl rfl ?_)
      refine AOps.nil ?_
      refine go_code ?_
      refine c_ret ?_
      exact out_tmp rfl rfl (Le.refl _) (by first | exact MLe.none _ | exact MLe.refl _ | (repeat' (first | exact MLe.nil | exact MLe.refl _ | refine MLe.cons _ ?_ | refine MLe.drop _ ?_))) rfl
  · refine c_cond_t rfl ?_
    refine c_seq ?_
    exact absurd g6 (by simp)
theorem codeRights_own : ownKnob Try.prog.godebug = none := by kernel_rfl
theorem codeRights_laidOut : laidOutB Try.prog = true := by kernel_rfl
set_option maxRecDepth 100000 in
theorem codeRights_lifted (os : Os) (started : os.Started) (H : Type) (enc : TypeId × Value → H) :
    ReturnsInHanded {} Try.checked os 3 .any (Rows.codeRightsSpec.pre6 enc Try.prog Try.f3 Rows.codeRightsRow.domain false) (Rows.codeRightsSpec.post enc Try.prog Try.f3 false true false false) := by
  refine returnsInHanded_of_change_sized (C := Try.checked) codeRights_own started (by kernel_rfl) Try.func3
    (ChangeSpec.witness6 (enc := enc) (C := Try.checked) false ⟨#[], #[.agg #[.slice none 0 0, .slice none 0 0, .slice none 0 0, .int .i64 0, .int .i64 0, .int .i64 0], .agg #[.slice none 0 0, .slice none 0 0, .slice none 0 0, .int .i64 0, .int .i64 0, .int .i64 0]], []⟩ 8 (by kernel_rfl) (by kernel_rfl) (by kernel_rfl) (by kernel_rfl)) ?_
  intro W base args ds gs before hval0 hW hcnd hsz0 _
  have hval : ∀ (j : Nat) t v, Try.f3.params[j]? = some t → args[j]? = some v → Value.okWide Try.prog W .any base t v := hval0
  have hsz : (DataW.weightsEach Try.prog (Try.f3.params.toList ++ Rows.codeRightsSpec.plain.varTypes Try.prog) (ds ++ gs)).all (· ≤ reachBytes) = true := hsz0
  have hW' := hW
  obtain ⟨p, q, hA0, hV, rfl, hfz, hnd⟩ := hW
  have hA : DataW.TrodAll enc Try.prog W 0 (fun _ => true) true Try.f3.params.toList args.toList ds p := hA0
  rw [Try.params3] at hA hval hsz
  obtain ⟨rfl, rfl⟩ := trodVars_none hV
  obtain ⟨v0, v1, d0, d1, p0, p1, rfl, rfl, rfl, h0, h1⟩ := trodAll_two hA
  obtain ⟨f0, c0, s0, r0, o0, _⟩ := open_two closed29 hsz 0 rfl rfl (by decide) h0
  obtain ⟨a, rfl, hLa⟩ := shapeL_Cd _ (by decide) _ _ s0
  obtain ⟨f1, c1, s1, r1, o1, _⟩ := open_two closed29 hsz 1 rfl rfl (by decide) h1
  obtain ⟨b, rfl, hLb⟩ := shapeL_Cd _ (by decide) _ _ s1
  refine (law_run (CodeRights_c a b hLa) (.cons (rel_agg' (by rw [Cd.cells_len]; decide) r0 o0) (.cons (rel_agg' (by rw [Cd.cells_len]; decide) r1 o1) .nil))).mono fun e W' ⟨he, hb⟩ => ?_
  subst he
  exact ⟨_, rfl, law_post (tb := 4) codeRights_laidOut (by kernel_rfl) (by kernel_rfl) Try.underlying4 rfl rfl rfl rfl hW' hb⟩
theorem codeRights_holds : Rows.CodeRightsSaid :=
  OpenClaim.holds_of_wide 3 Try.f3 rfl rfl rfl rfl rfl rfl rfl ⟨rfl, rfl, rfl, rfl, rfl⟩ rfl rfl rfl rfl rfl (by kernel_rfl) Try.func3 (by kernel_rfl)
    (of_decide_eq_true (by kernel_rfl)) (by unfold Func.isWrapper; first | (rw [if_pos (by decide +kernel)]; kernel_rfl) | (rw [if_neg (by decide +kernel)]; exact ⟨rfl, rfl⟩))
    (fun os started H enc _ => codeRights_lifted os started H enc)
#print axioms codeRights_holds
end Go.Proofs.Ytadhakcmfkghbaa
