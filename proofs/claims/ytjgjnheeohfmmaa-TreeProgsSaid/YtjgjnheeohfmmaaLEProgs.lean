/- TreeProgs: any two programs are the same just if the document says so. -/
import Derived.Test.YtjgjnheeohfmmaaChecked
import Derived.Test.YtjgjnheeohfmmaaRows
import Derived.Test.YtjgjnheeohfmmaaAZ
import Derived.Test.YtjgjnheeohfmmaaOG
import Derived.Test.YtjgjnheeohfmmaaB05m
import Derived.Test.YtjgjnheeohfmmaaB05w
namespace Go.Proofs.Ytjgjnheeohfmmaa
open Go.ChangeShapes Go.WideShapes Go.ChangeAt Go.RowKit
theorem bool_same'' {a b : Bool} {p : Prop} (ha : a = true ↔ p) (hb : b = true ↔ p) : a = b := by
  cases a <;> cases b <;> simp_all
set_option maxHeartbeats 4000000 in
set_option maxRecDepth 100000 in
theorem TreeProgs_c (a b : Pg) (hLa : a.Lim) (hLb : b.Lim) : ACall Try.prog 11 [.agg a.cells, .agg b.cells] [] (fun v _ => v = .val (.bool true)) := by
  have HA := Few_z a hLa
  have HB := Few_z b hLb
  have H1 := SameProg_c a b
  have H2 := rSameProg_c a b
  have H3 := (SameProg_c a a).yes rfl
  generalize (a.key = b.key) = K at *
  obtain ⟨da1, cl1, in1, bs1⟩ := a
  obtain ⟨da2, cl2, in2, bs2⟩ := b
  refine ACall.enter Try.func11 rfl (by kernel_rfl) rfl (Nat.le_of_ble_eq_true rfl) ?_
  refine c_start ?_
  refine c_seq ?_
  refine c_region ?_
  refine AOps.st 2 rfl rfl rfl (op_boxc (cs' := [_, _, _, _]) rfl rfl rfl rfl ?_)
  refine AOps.st 3 rfl rfl rfl (op_boxc (cs' := [_, _, _, _]) rfl rfl rfl rfl ?_)
  refine AOps.st 4 rfl rfl rfl (op_assign rfl rfl ?_)
  refine AOps.nil ?_
  refine go_code ?_
  refine c_seq ?_
  refine c_seq ?_
  refine c_region ?_
  refine AOps.st 5 rfl rfl rfl (op_callp (xs := []) rfl rfl (awake05_c) (by first | exact Les.refl _ | (repeat' (first | exact Les.refl _ | refine Les.cons ?_ ?_ | exact Le.refl _ | exact Le.own _ _ _ | exact Le.nil _ | refine Le.agg ?_))) ?_)
  refine AOps.st 6 rfl rfl rfl (op_notc rfl rfl ?_); intro c6 h6
  try replace h6 := nott h6 h5
  refine AOps.nil ?_
  refine go_code ?_
  rcases bool_split h6 with ⟨rfl, g6⟩ | ⟨rfl, g6⟩
  · refine c_cond_f rfl ?_
    refine c_skip ?_
    refine go_code ?_
    refine c_seq ?_
    refine c_seq ?_
    refine c_region ?_
    refine AOps.st 7 rfl rfl rfl (op_load_c (cs' := [_, _, _, _]) rfl ta_81 rfl rfl rfl ?_)
    refine AOps.st 8 rfl rfl rfl (op_callz (xs := [.tmp 7]) rfl rfl (HA) (by first | exact Les.refl _ | (repeat' (first | exact Les.refl _ | refine Les.cons ?_ ?_ | exact Le.refl _ | exact Le.own _ _ _ | exact Le.nil _ | refine Le.agg ?_))) ?_); intro c8 h8
    refine AOps.st 9 rfl rfl rfl (op_notc rfl rfl ?_); intro c9 h9
    try replace h9 := nott h9 h8
    refine AOps.st 10 rfl rfl rfl (op_move rfl rfl ?_)
    rcases bool_split h9 with ⟨rfl, g9⟩ | ⟨rfl, g9⟩
    · skip
      refine AOps.gt 11 rfl rfl rfl rfl rfl (op_load_c (cs' := [_, _, _, _]) rfl ta_81 rfl rfl rfl ?_)
      refine AOps.gt 12 rfl rfl rfl rfl rfl (op_callz (xs := [.tmp 11]) rfl rfl (HB) (by first | exact Les.refl _ | (repeat' (first | exact Les.refl _ | refine Les.cons ?_ ?_ | exact Le.refl _ | exact Le.own _ _ _ | exact Le.nil _ | refine Le.agg ?_))) ?_); intro c12 h12
      refine AOps.gt 13 rfl rfl rfl rfl rfl (op_notc rfl rfl ?_); intro c13 h13
      try replace h13 := nott h13 h12
      refine AOps.st 14 rfl rfl rfl (op_pick rfl rfl rfl ?_)
      refine AOps.nil ?_
      refine go_code ?_
      rcases bool_split h13 with ⟨rfl, g13⟩ | ⟨rfl, g13⟩
      · refine c_cond_f rfl ?_
        refine c_skip ?_
        refine go_code ?_
        refine c_seq ?_
        refine c_boold 4 (True) tmix rfl ?_ _ _ rfl ?_
        · skip
          refine DOps.st 15 rfl rfl (op_load_c (cs' := [_, _, _, _]) rfl ta_81 rfl rfl rfl ⟨rfl, rfl⟩) ?_
          refine DOps.st 16 rfl rfl (op_load_c (cs' := [_, _, _, _]) rfl ta_81 rfl rfl rfl ⟨rfl, rfl⟩) ?_
          refine DOps.cm 17 rfl rfl (fun _ q => op_callb (xs := [.tmp 15, .tmp 16]) rfl rfl (H1) (by first | exact Les.refl _ | (repeat' (first | exact Les.refl _ | refine Les.cons ?_ ?_ | exact Le.refl _ | exact Le.own _ _ _ | exact Le.nil _ | refine Le.agg ?_))) q) ?_; intro c17 h17
          refine DOps.st 18 rfl rfl (op_load_c (cs' := [_, _, _, _]) rfl ta_81 rfl rfl rfl ⟨rfl, rfl⟩) ?_
          refine DOps.st 19 rfl rfl (op_load_c (cs' := [_, _, _, _]) rfl ta_81 rfl rfl rfl ⟨rfl, rfl⟩) ?_
          refine DOps.cm 20 rfl rfl (fun _ q => op_callb (xs := [.tmp 18, .tmp 19]) rfl rfl (H2) (by first | exact Les.refl _ | (repeat' (first | exact Les.refl _ | refine Les.cons ?_ ?_ | exact Le.refl _ | exact Le.own _ _ _ | exact Le.nil _ | refine Le.agg ?_))) q) ?_; intro c20 h20
          refine DOps.cm 21 rfl rfl (fun _ q => op_beqlc rfl tu_4 rfl rfl q) ?_; intro c21 h21
          refine DOps.st 22 rfl rfl (op_move rfl rfl ⟨rfl, rfl⟩) ?_
          rcases bool_split h21 with ⟨rfl, g21⟩ | ⟨rfl, g21⟩
          · skip
            refine DOps.gf 23 rfl rfl rfl rfl ?_
            refine DOps.gf 24 rfl rfl rfl rfl ?_
            refine DOps.gf 25 rfl rfl rfl rfl ?_
            refine DOps.st 26 rfl rfl (op_pick rfl rfl rfl ⟨rfl, rfl⟩) ?_
            refine DOps.st 4 rfl rfl (op_assign rfl rfl ⟨rfl, rfl⟩) ?_
            show BoolQ _ _ _ _ _ _
            refine BoolQ.mk rfl ?_ (by repeat' (first | exact SLe.wo _ _ | exact SLe.refl _ | refine SLe.fresh rfl ?_)) (by first | exact MLe.none _ | exact MLe.refl _ | (repeat' (first | exact MLe.nil | exact MLe.refl _ | refine MLe.cons _ ?_ | refine MLe.drop _ ?_)))
            first | (simp_all; done) | exact absurd (bool_same'' h17 h20) g21
          · skip
            refine DOps.gt 23 rfl rfl rfl rfl (op_load_c (cs' := [_, _, _, _]) rfl ta_81 rfl rfl rfl ⟨rfl, rfl⟩) ?_
            refine DOps.gt 24 rfl rfl rfl rfl (op_load_c (cs' := [_, _, _, _]) rfl ta_81 rfl rfl rfl ⟨rfl, rfl⟩) ?_
            refine DOps.gt 25 rfl rfl rfl rfl (op_callp (xs := [.tmp 23, .tmp 24]) rfl rfl (H3) (by first | exact Les.refl _ | (repeat' (first | exact Les.refl _ | refine Les.cons ?_ ?_ | exact Le.refl _ | exact Le.own _ _ _ | exact Le.nil _ | refine Le.agg ?_))) ⟨rfl, rfl⟩) ?_
            refine DOps.st 26 rfl rfl (op_pick rfl rfl rfl ⟨rfl, rfl⟩) ?_
            refine DOps.st 4 rfl rfl (op_assign rfl rfl ⟨rfl, rfl⟩) ?_
            show BoolQ _ _ _ _ _ _
            refine BoolQ.mk rfl ?_ (by repeat' (first | exact SLe.wo _ _ | exact SLe.refl _ | refine SLe.fresh rfl ?_)) (by first | exact MLe.none _ | exact MLe.refl _ | (repeat' (first | exact MLe.nil | exact MLe.refl _ | refine MLe.cons _ ?_ | refine MLe.drop _ ?_)))
            first | (simp_all; done) | exact absurd (bool_same'' h17 h20) g21
        intro c4 h4
        refine go_code ?_
        refine c_ret ?_
        exact out_tmp rfl rfl (Le.refl _) (by first | exact MLe.none _ | exact MLe.refl _ | (repeat' (first | exact MLe.nil | exact MLe.refl _ | refine MLe.cons _ ?_ | refine MLe.drop _ ?_))) (by simp_all)
      · refine c_cond_t rfl ?_
        refine c_seq ?_
        refine c_region ?_
        refine AOps.st 4 rfl rfl rfl (op_assign rfl rfl ?_)
        refine AOps.nil ?_
        refine go_code ?_
        refine c_ret ?_
        exact out_tmp rfl rfl (Le.refl _) (by first | exact MLe.none _ | exact MLe.refl _ | (repeat' (first | exact MLe.nil | exact MLe.refl _ | refine MLe.cons _ ?_ | refine MLe.drop _ ?_))) rfl
    · skip
      refine AOps.gf 11 rfl rfl rfl rfl rfl ?_
      refine AOps.gf 12 rfl rfl rfl rfl rfl ?_
      refine AOps.gf 13 rfl rfl rfl rfl rfl ?_
      refine AOps.st 14 rfl rfl rfl (op_pick rfl rfl rfl ?_)
      refine AOps.nil ?_
      refine go_code ?_
      refine c_cond_t rfl ?_
      refine c_seq ?_
      refine c_region ?_
      refine AOps.st 4 rfl rfl rfl (op_assign rfl rfl ?_)
      refine AOps.nil ?_
      refine go_code ?_
      refine c_ret ?_
      exact out_tmp rfl rfl (Le.refl _) (by first | exact MLe.none _ | exact MLe.refl _ | (repeat' (first | exact MLe.nil | exact MLe.refl _ | refine MLe.cons _ ?_ | refine MLe.drop _ ?_))) rfl
  · refine c_cond_t rfl ?_
    refine c_seq ?_
    exact absurd g6 (by simp)
theorem treeProgs_own : ownKnob Try.prog.godebug = none := by kernel_rfl
theorem treeProgs_laidOut : laidOutB Try.prog = true := by kernel_rfl
set_option maxRecDepth 100000 in
theorem treeProgs_lifted (os : Os) (started : os.Started) (H : Type) (enc : TypeId × Value → H) :
    ReturnsInHanded {} Try.checked os 11 .any (Rows.treeProgsSpec.pre6 enc Try.prog Try.f11 Rows.treeProgsRow.domain false) (Rows.treeProgsSpec.post enc Try.prog Try.f11 false true false false) := by
  refine returnsInHanded_of_change_sized (C := Try.checked) treeProgs_own started (by kernel_rfl) Try.func11
    (ChangeSpec.witness6 (enc := enc) (C := Try.checked) false ⟨#[], #[.agg #[.slice none 0 0, .slice none 0 0, .slice none 0 0, .slice none 0 0], .agg #[.slice none 0 0, .slice none 0 0, .slice none 0 0, .slice none 0 0]], []⟩ 8 (by kernel_rfl) (by kernel_rfl) (by kernel_rfl) (by kernel_rfl)) ?_
  intro W base args ds gs before hval0 hW hcnd hsz0 _
  have hval : ∀ (j : Nat) t v, Try.f11.params[j]? = some t → args[j]? = some v → Value.okWide Try.prog W .any base t v := hval0
  have hsz : (DataW.weightsEach Try.prog (Try.f11.params.toList ++ Rows.treeProgsSpec.plain.varTypes Try.prog) (ds ++ gs)).all (· ≤ reachBytes) = true := hsz0
  have hW' := hW
  obtain ⟨p, q, hA0, hV, rfl, hfz, hnd⟩ := hW
  have hA : DataW.TrodAll enc Try.prog W 0 (fun _ => true) true Try.f11.params.toList args.toList ds p := hA0
  rw [Try.params11] at hA hval hsz
  obtain ⟨rfl, rfl⟩ := trodVars_none hV
  obtain ⟨v0, v1, d0, d1, p0, p1, rfl, rfl, rfl, h0, h1⟩ := trodAll_two hA
  obtain ⟨f0, c0, s0, r0, o0, _⟩ := open_two closed05g hsz 0 rfl rfl (by decide) h0
  obtain ⟨a, rfl, hLa⟩ := shapeL_Pg _ (by decide) _ _ s0
  obtain ⟨f1, c1, s1, r1, o1, _⟩ := open_two closed05g hsz 1 rfl rfl (by decide) h1
  obtain ⟨b, rfl, hLb⟩ := shapeL_Pg _ (by decide) _ _ s1
  refine (law_run (TreeProgs_c a b hLa hLb) (.cons (rel_agg' (by rw [Pg.cells_len]; decide) r0 o0) (.cons (rel_agg' (by rw [Pg.cells_len]; decide) r1 o1) .nil))).mono fun e W' ⟨he, hb⟩ => ?_
  subst he
  exact ⟨_, rfl, law_post (tb := 4) treeProgs_laidOut (by kernel_rfl) (by kernel_rfl) Try.underlying4 rfl rfl rfl rfl hW' hb⟩
theorem treeProgs_holds : Rows.TreeProgsSaid :=
  OpenClaim.holds_of_wide 11 Try.f11 rfl rfl rfl rfl rfl rfl rfl ⟨rfl, rfl, rfl, rfl, rfl⟩ rfl rfl rfl rfl rfl (by kernel_rfl) Try.func11 (by kernel_rfl)
    (of_decide_eq_true (by kernel_rfl)) (by unfold Func.isWrapper; first | (rw [if_pos (by decide +kernel)]; kernel_rfl) | (rw [if_neg (by decide +kernel)]; exact ⟨rfl, rfl⟩))
    (fun os started H enc _ => treeProgs_lifted os started H enc)
#print axioms treeProgs_holds
end Go.Proofs.Ytjgjnheeohfmmaa
