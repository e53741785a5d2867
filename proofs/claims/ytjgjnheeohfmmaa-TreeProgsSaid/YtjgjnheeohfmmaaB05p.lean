/- sameness of types, patterns, expressions: tree.SameType, SamePat, Same, sameBind, and the document's -/
import Derived.Test.YtjgjnheeohfmmaaB05e
namespace Go.Proofs.Ytjgjnheeohfmmaa
open Go.RowKit
set_option maxHeartbeats 4000000 in
set_option maxRecDepth 100000 in
theorem tSameType_c (a : Ty) : ∀ b : Ty, BCall Try.prog 47 [.agg a.cells, .agg b.cells] (a = b) := by
  obtain ⟨k1, s1, n1, ks1⟩ := a
  rintro ⟨k2, s2, n2, ks2⟩
  have H := Eqs_Ty id 47 ks1 ks2 (fun x hx y => tSameType_c x y)
  refine ACall.enter Try.func47 rfl (by kernel_rfl) rfl (Nat.le_of_ble_eq_true rfl) ?_
  refine c_start ?_
  refine c_seq ?_
  refine c_region ?_
  refine AOps.st 2 rfl rfl rfl (op_boxc (cs' := [_, _, _, _]) rfl rfl rfl rfl ?_)
  refine AOps.st 3 rfl rfl rfl (op_boxc (cs' := [_, _, _, _]) rfl rfl rfl rfl ?_)
  refine AOps.st 4 rfl rfl rfl (op_assign rfl rfl ?_)
  refine AOps.nil ?_
  refine go_code ?_
  refine c_seq ?_
  refine c_bool 4 (Ty.mk k1 s1 n1 ks1 = Ty.mk k2 s2 n2 ks2) ?_ _ _ rfl ?_
  · skip
    refine AOps.st 5 rfl rfl rfl (op_fieldAddr_c rfl tf_24_0 rfl rfl ?_)
    refine AOps.st 6 rfl rfl rfl (op_load_c1 rfl ta_3 rfl rfl ?_)
    refine AOps.st 7 rfl rfl rfl (op_fieldAddr_c rfl tf_24_0 rfl rfl ?_)
    refine AOps.st 8 rfl rfl rfl (op_load_c1 rfl ta_3 rfl rfl ?_)
    refine AOps.st 9 rfl rfl rfl (op_eql rfl rfl rfl ?_); intro c9 h9
    refine AOps.st 10 rfl rfl rfl (op_move rfl rfl ?_)
    rcases bool_split h9 with ⟨rfl, g9⟩ | ⟨rfl, g9⟩
    · skip
      refine AOps.gf 11 rfl rfl rfl rfl rfl ?_
      refine AOps.gf 12 rfl rfl rfl rfl rfl ?_
      refine AOps.gf 13 rfl rfl rfl rfl rfl ?_
      refine AOps.gf 14 rfl rfl rfl rfl rfl ?_
      refine AOps.gf 15 rfl rfl rfl rfl rfl ?_
      refine AOps.st 16 rfl rfl rfl (op_pick rfl rfl rfl ?_)
      refine AOps.st 17 rfl rfl rfl (op_move rfl rfl ?_)
      refine AOps.gf 18 rfl rfl rfl rfl rfl ?_
      refine AOps.gf 19 rfl rfl rfl rfl rfl ?_
      refine AOps.gf 20 rfl rfl rfl rfl rfl ?_
      refine AOps.gf 21 rfl rfl rfl rfl rfl ?_
      refine AOps.gf 22 rfl rfl rfl rfl rfl ?_
      refine AOps.st 23 rfl rfl rfl (op_pick rfl rfl rfl ?_)
      refine AOps.st 24 rfl rfl rfl (op_move rfl rfl ?_)
      refine AOps.gf 25 rfl rfl rfl rfl rfl ?_
      refine AOps.gf 26 rfl rfl rfl rfl rfl ?_
      refine AOps.gf 27 rfl rfl rfl rfl rfl ?_
      refine AOps.gf 28 rfl rfl rfl rfl rfl ?_
      refine AOps.gf 29 rfl rfl rfl rfl rfl ?_
      refine AOps.st 30 rfl rfl rfl (op_pick rfl rfl rfl ?_)
      refine AOps.st 4 rfl rfl rfl (op_assign rfl rfl ?_)
      refine AOps.nil ?_
      refine BoolQ.mk rfl ?_ (by repeat' (first | exact SLe.wo _ _ | exact SLe.refl _ | refine SLe.fresh rfl ?_)) (by first | exact MLe.none _ | exact MLe.refl _ | (repeat' (first | exact MLe.nil | exact MLe.refl _ | refine MLe.cons _ ?_ | refine MLe.drop _ ?_)))
      simp_all
    · skip
      refine AOps.gt 11 rfl rfl rfl rfl rfl (op_fieldAddr_c rfl tf_24_1 rfl rfl ?_)
      refine AOps.gt 12 rfl rfl rfl rfl rfl (op_load_c1 rfl ta_9 rfl rfl ?_)
      refine AOps.gt 13 rfl rfl rfl rfl rfl (op_fieldAddr_c rfl tf_24_1 rfl rfl ?_)
      refine AOps.gt 14 rfl rfl rfl rfl rfl (op_load_c1 rfl ta_9 rfl rfl ?_)
      refine AOps.gt 15 rfl rfl rfl rfl rfl (op_seql rfl rfl rfl ?_); intro c15 h15
      refine AOps.st 16 rfl rfl rfl (op_pick rfl rfl rfl ?_)
      refine AOps.st 17 rfl rfl rfl (op_move rfl rfl ?_)
      rcases bool_split h15 with ⟨rfl, g15⟩ | ⟨rfl, g15⟩
      · skip
        refine AOps.gf 18 rfl rfl rfl rfl rfl ?_
        refine AOps.gf 19 rfl rfl rfl rfl rfl ?_
        refine AOps.gf 20 rfl rfl rfl rfl rfl ?_
        refine AOps.gf 21 rfl rfl rfl rfl rfl ?_
        refine AOps.gf 22 rfl rfl rfl rfl rfl ?_
        refine AOps.st 23 rfl rfl rfl (op_pick rfl rfl rfl ?_)
        refine AOps.st 24 rfl rfl rfl (op_move rfl rfl ?_)
        refine AOps.gf 25 rfl rfl rfl rfl rfl ?_
        refine AOps.gf 26 rfl rfl rfl rfl rfl ?_
        refine AOps.gf 27 rfl rfl rfl rfl rfl ?_
        refine AOps.gf 28 rfl rfl rfl rfl rfl ?_
        refine AOps.gf 29 rfl rfl rfl rfl rfl ?_
        refine AOps.st 30 rfl rfl rfl (op_pick rfl rfl rfl ?_)
        refine AOps.st 4 rfl rfl rfl (op_assign rfl rfl ?_)
        refine AOps.nil ?_
        refine BoolQ.mk rfl ?_ (by repeat' (first | exact SLe.wo _ _ | exact SLe.refl _ | refine SLe.fresh rfl ?_)) (by first | exact MLe.none _ | exact MLe.refl _ | (repeat' (first | exact MLe.nil | exact MLe.refl _ | refine MLe.cons _ ?_ | refine MLe.drop _ ?_)))
        simp_all
      · skip
        refine AOps.gt 18 rfl rfl rfl rfl rfl (op_fieldAddr_c rfl tf_24_2 rfl rfl ?_)
        refine AOps.gt 19 rfl rfl rfl rfl rfl (op_load_c1 rfl ta_3 rfl rfl ?_)
        refine AOps.gt 20 rfl rfl rfl rfl rfl (op_fieldAddr_c rfl tf_24_2 rfl rfl ?_)
        refine AOps.gt 21 rfl rfl rfl rfl rfl (op_load_c1 rfl ta_3 rfl rfl ?_)
        refine AOps.gt 22 rfl rfl rfl rfl rfl (op_eql rfl rfl rfl ?_); intro c22 h22
        refine AOps.st 23 rfl rfl rfl (op_pick rfl rfl rfl ?_)
        refine AOps.st 24 rfl rfl rfl (op_move rfl rfl ?_)
        rcases bool_split h22 with ⟨rfl, g22⟩ | ⟨rfl, g22⟩
        · skip
          refine AOps.gf 25 rfl rfl rfl rfl rfl ?_
          refine AOps.gf 26 rfl rfl rfl rfl rfl ?_
          refine AOps.gf 27 rfl rfl rfl rfl rfl ?_
          refine AOps.gf 28 rfl rfl rfl rfl rfl ?_
          refine AOps.gf 29 rfl rfl rfl rfl rfl ?_
          refine AOps.st 30 rfl rfl rfl (op_pick rfl rfl rfl ?_)
          refine AOps.st 4 rfl rfl rfl (op_assign rfl rfl ?_)
          refine AOps.nil ?_
          refine BoolQ.mk rfl ?_ (by repeat' (first | exact SLe.wo _ _ | exact SLe.refl _ | refine SLe.fresh rfl ?_)) (by first | exact MLe.none _ | exact MLe.refl _ | (repeat' (first | exact MLe.nil | exact MLe.refl _ | refine MLe.cons _ ?_ | refine MLe.drop _ ?_)))
          simp_all
        · skip
          refine AOps.gt 25 rfl rfl rfl rfl rfl (op_fieldAddr_c rfl tf_24_3 rfl rfl ?_)
          refine AOps.gt 26 rfl rfl rfl rfl rfl (op_load_c1 rfl ta_22 rfl rfl ?_)
          refine AOps.gt 27 rfl rfl rfl rfl rfl (op_fieldAddr_c rfl tf_24_3 rfl rfl ?_)
          refine AOps.gt 28 rfl rfl rfl rfl rfl (op_load_c1 rfl ta_22 rfl rfl ?_)
          refine AOps.gt 29 rfl rfl rfl rfl rfl (op_callb (xs := [.tmp 26, .tmp 28, .func 47]) rfl rfl (H) (by first | exact Les.refl _ | (repeat' (first | exact Les.refl _ | refine Les.cons ?_ ?_ | exact Le.refl _ | exact Le.own _ _ _ | exact Le.nil _ | refine Le.agg ?_))) ?_); intro c29 h29
          refine AOps.st 30 rfl rfl rfl (op_pick rfl rfl rfl ?_)
          refine AOps.st 4 rfl rfl rfl (op_assign rfl rfl ?_)
          refine AOps.nil ?_
          refine BoolQ.mk rfl ?_ (by repeat' (first | exact SLe.wo _ _ | exact SLe.refl _ | refine SLe.fresh rfl ?_)) (by first | exact MLe.none _ | exact MLe.refl _ | (repeat' (first | exact MLe.nil | exact MLe.refl _ | refine MLe.cons _ ?_ | refine MLe.drop _ ?_)))
          simp_all
  intro c4 h4
  refine go_code ?_
  refine c_ret ?_
  exact out_tmp rfl rfl (Le.refl _) (by first | exact MLe.none _ | exact MLe.refl _ | (repeat' (first | exact MLe.nil | exact MLe.refl _ | refine MLe.cons _ ?_ | refine MLe.drop _ ?_))) ⟨⟨_, h4, rfl⟩, rfl⟩
termination_by SizeOf.sizeOf a
decreasing_by
  have := List.sizeOf_lt_of_mem hx
  simp; omega
set_option maxHeartbeats 4000000 in
set_option maxRecDepth 100000 in
theorem tSamePat_c (a : Pa) : ∀ b : Pa, BCall Try.prog 48 [.agg a.cells, .agg b.cells] (a.bare = b.bare) := by
  obtain ⟨k1, s1, n1, ks1, p1⟩ := a
  rintro ⟨k2, s2, n2, ks2, p2⟩
  have H := Eqs_Pa Pa.bare 48 ks1 ks2 (fun x hx y => tSamePat_c x y)
  refine ACall.enter Try.func48 rfl (by kernel_rfl) rfl (Nat.le_of_ble_eq_true rfl) ?_
  refine c_start ?_
  refine c_seq ?_
  refine c_region ?_
  refine AOps.st 2 rfl rfl rfl (op_boxc (cs' := [_, _, _, _, _]) rfl rfl rfl rfl ?_)
  refine AOps.st 3 rfl rfl rfl (op_boxc (cs' := [_, _, _, _, _]) rfl rfl rfl rfl ?_)
  refine AOps.st 4 rfl rfl rfl (op_assign rfl rfl ?_)
  refine AOps.nil ?_
  refine go_code ?_
  refine c_seq ?_
  refine c_bool 4 ((Pa.mk k1 s1 n1 ks1 p1).bare = (Pa.mk k2 s2 n2 ks2 p2).bare) ?_ _ _ rfl ?_
  · skip
    refine AOps.st 5 rfl rfl rfl (op_fieldAddr_c rfl tf_68_0 rfl rfl ?_)
    refine AOps.st 6 rfl rfl rfl (op_load_c1 rfl ta_3 rfl rfl ?_)
    refine AOps.st 7 rfl rfl rfl (op_fieldAddr_c rfl tf_68_0 rfl rfl ?_)
    refine AOps.st 8 rfl rfl rfl (op_load_c1 rfl ta_3 rfl rfl ?_)
    refine AOps.st 9 rfl rfl rfl (op_eql rfl rfl rfl ?_); intro c9 h9
    refine AOps.st 10 rfl rfl rfl (op_move rfl rfl ?_)
    rcases bool_split h9 with ⟨rfl, g9⟩ | ⟨rfl, g9⟩
    · skip
      refine AOps.gf 11 rfl rfl rfl rfl rfl ?_
      refine AOps.gf 12 rfl rfl rfl rfl rfl ?_
      refine AOps.gf 13 rfl rfl rfl rfl rfl ?_
      refine AOps.gf 14 rfl rfl rfl rfl rfl ?_
      refine AOps.gf 15 rfl rfl rfl rfl rfl ?_
      refine AOps.st 16 rfl rfl rfl (op_pick rfl rfl rfl ?_)
      refine AOps.st 17 rfl rfl rfl (op_move rfl rfl ?_)
      refine AOps.gf 18 rfl rfl rfl rfl rfl ?_
      refine AOps.gf 19 rfl rfl rfl rfl rfl ?_
      refine AOps.gf 20 rfl rfl rfl rfl rfl ?_
      refine AOps.gf 21 rfl rfl rfl rfl rfl ?_
      refine AOps.gf 22 rfl rfl rfl rfl rfl ?_
      refine AOps.st 23 rfl rfl rfl (op_pick rfl rfl rfl ?_)
      refine AOps.st 24 rfl rfl rfl (op_move rfl rfl ?_)
      refine AOps.gf 25 rfl rfl rfl rfl rfl ?_
      refine AOps.gf 26 rfl rfl rfl rfl rfl ?_
      refine AOps.gf 27 rfl rfl rfl rfl rfl ?_
      refine AOps.gf 28 rfl rfl rfl rfl rfl ?_
      refine AOps.gf 29 rfl rfl rfl rfl rfl ?_
      refine AOps.st 30 rfl rfl rfl (op_pick rfl rfl rfl ?_)
      refine AOps.st 4 rfl rfl rfl (op_assign rfl rfl ?_)
      refine AOps.nil ?_
      refine BoolQ.mk rfl ?_ (by repeat' (first | exact SLe.wo _ _ | exact SLe.refl _ | refine SLe.fresh rfl ?_)) (by first | exact MLe.none _ | exact MLe.refl _ | (repeat' (first | exact MLe.nil | exact MLe.refl _ | refine MLe.cons _ ?_ | refine MLe.drop _ ?_)))
      rw [Pa.bare_iff]; simp_all
    · skip
      refine AOps.gt 11 rfl rfl rfl rfl rfl (op_fieldAddr_c rfl tf_68_1 rfl rfl ?_)
      refine AOps.gt 12 rfl rfl rfl rfl rfl (op_load_c1 rfl ta_9 rfl rfl ?_)
      refine AOps.gt 13 rfl rfl rfl rfl rfl (op_fieldAddr_c rfl tf_68_1 rfl rfl ?_)
      refine AOps.gt 14 rfl rfl rfl rfl rfl (op_load_c1 rfl ta_9 rfl rfl ?_)
      refine AOps.gt 15 rfl rfl rfl rfl rfl (op_seql rfl rfl rfl ?_); intro c15 h15
      refine AOps.st 16 rfl rfl rfl (op_pick rfl rfl rfl ?_)
      refine AOps.st 17 rfl rfl rfl (op_move rfl rfl ?_)
      rcases bool_split h15 with ⟨rfl, g15⟩ | ⟨rfl, g15⟩
      · skip
        refine AOps.gf 18 rfl rfl rfl rfl rfl ?_
        refine AOps.gf 19 rfl rfl rfl rfl rfl ?_
        refine AOps.gf 20 rfl rfl rfl rfl rfl ?_
        refine AOps.gf 21 rfl rfl rfl rfl rfl ?_
        refine AOps.gf 22 rfl rfl rfl rfl rfl ?_
        refine AOps.st 23 rfl rfl rfl (op_pick rfl rfl rfl ?_)
        refine AOps.st 24 rfl rfl rfl (op_move rfl rfl ?_)
        refine AOps.gf 25 rfl rfl rfl rfl rfl ?_
        refine AOps.gf 26 rfl rfl rfl rfl rfl ?_
        refine AOps.gf 27 rfl rfl rfl rfl rfl ?_
        refine AOps.gf 28 rfl rfl rfl rfl rfl ?_
        refine AOps.gf 29 rfl rfl rfl rfl rfl ?_
        refine AOps.st 30 rfl rfl rfl (op_pick rfl rfl rfl ?_)
        refine AOps.st 4 rfl rfl rfl (op_assign rfl rfl ?_)
        refine AOps.nil ?_
        refine BoolQ.mk rfl ?_ (by repeat' (first | exact SLe.wo _ _ | exact SLe.refl _ | refine SLe.fresh rfl ?_)) (by first | exact MLe.none _ | exact MLe.refl _ | (repeat' (first | exact MLe.nil | exact MLe.refl _ | refine MLe.cons _ ?_ | refine MLe.drop _ ?_)))
        rw [Pa.bare_iff]; simp_all
      · skip
        refine AOps.gt 18 rfl rfl rfl rfl rfl (op_fieldAddr_c rfl tf_68_2 rfl rfl ?_)
        refine AOps.gt 19 rfl rfl rfl rfl rfl (op_load_c1 rfl ta_2 rfl rfl ?_)
        refine AOps.gt 20 rfl rfl rfl rfl rfl (op_fieldAddr_c rfl tf_68_2 rfl rfl ?_)
        refine AOps.gt 21 rfl rfl rfl rfl rfl (op_load_c1 rfl ta_2 rfl rfl ?_)
        refine AOps.gt 22 rfl rfl rfl rfl rfl (op_eql rfl rfl rfl ?_); intro c22 h22
        refine AOps.st 23 rfl rfl rfl (op_pick rfl rfl rfl ?_)
        refine AOps.st 24 rfl rfl rfl (op_move rfl rfl ?_)
        rcases bool_split h22 with ⟨rfl, g22⟩ | ⟨rfl, g22⟩
        · skip
          refine AOps.gf 25 rfl rfl rfl rfl rfl ?_
          refine AOps.gf 26 rfl rfl rfl rfl rfl ?_
          refine AOps.gf 27 rfl rfl rfl rfl rfl ?_
          refine AOps.gf 28 rfl rfl rfl rfl rfl ?_
          refine AOps.gf 29 rfl rfl rfl rfl rfl ?_
          refine AOps.st 30 rfl rfl rfl (op_pick rfl rfl rfl ?_)
          refine AOps.st 4 rfl rfl rfl (op_assign rfl rfl ?_)
          refine AOps.nil ?_
          refine BoolQ.mk rfl ?_ (by repeat' (first | exact SLe.wo _ _ | exact SLe.refl _ | refine SLe.fresh rfl ?_)) (by first | exact MLe.none _ | exact MLe.refl _ | (repeat' (first | exact MLe.nil | exact MLe.refl _ | refine MLe.cons _ ?_ | refine MLe.drop _ ?_)))
          rw [Pa.bare_iff]; simp_all
        · skip
          refine AOps.gt 25 rfl rfl rfl rfl rfl (op_fieldAddr_c rfl tf_68_3 rfl rfl ?_)
          refine AOps.gt 26 rfl rfl rfl rfl rfl (op_load_c1 rfl ta_66 rfl rfl ?_)
          refine AOps.gt 27 rfl rfl rfl rfl rfl (op_fieldAddr_c rfl tf_68_3 rfl rfl ?_)
          refine AOps.gt 28 rfl rfl rfl rfl rfl (op_load_c1 rfl ta_66 rfl rfl ?_)
          refine AOps.gt 29 rfl rfl rfl rfl rfl (op_callb (xs := [.tmp 26, .tmp 28, .func 48]) rfl rfl (H) (by first | exact Les.refl _ | (repeat' (first | exact Les.refl _ | refine Les.cons ?_ ?_ | exact Le.refl _ | exact Le.own _ _ _ | exact Le.nil _ | refine Le.agg ?_))) ?_); intro c29 h29
          refine AOps.st 30 rfl rfl rfl (op_pick rfl rfl rfl ?_)
          refine AOps.st 4 rfl rfl rfl (op_assign rfl rfl ?_)
          refine AOps.nil ?_
          refine BoolQ.mk rfl ?_ (by repeat' (first | exact SLe.wo _ _ | exact SLe.refl _ | refine SLe.fresh rfl ?_)) (by first | exact MLe.none _ | exact MLe.refl _ | (repeat' (first | exact MLe.nil | exact MLe.refl _ | refine MLe.cons _ ?_ | refine MLe.drop _ ?_)))
          rw [Pa.bare_iff]; simp_all
  intro c4 h4
  refine go_code ?_
  refine c_ret ?_
  exact out_tmp rfl rfl (Le.refl _) (by first | exact MLe.none _ | exact MLe.refl _ | (repeat' (first | exact MLe.nil | exact MLe.refl _ | refine MLe.cons _ ?_ | refine MLe.drop _ ?_))) ⟨⟨_, h4, rfl⟩, rfl⟩
termination_by SizeOf.sizeOf a
decreasing_by exact Pa.lt_kid hx
set_option maxHeartbeats 4000000 in
set_option maxRecDepth 100000 in
theorem rSamePat_c (a : Pa) : ∀ b : Pa, BCall Try.prog 49 [.agg a.cells, .agg b.cells] (a.bare = b.bare) := by
  obtain ⟨k1, s1, n1, ks1, p1⟩ := a
  rintro ⟨k2, s2, n2, ks2, p2⟩
  have IH : ∀ x ∈ ks1, ∀ y : Pa, BCall Try.prog 49 [.agg x.cells, .agg y.cells] (x.bare = y.bare) := fun x hx y => rSamePat_c x y
  have hl1 := Pa.cellss_len ks1
  have hl2 := Pa.cellss_len ks2
  refine ACall.enter Try.func49 rfl (by kernel_rfl) rfl (Nat.le_of_ble_eq_true rfl) ?_
  refine c_start ?_
  refine c_lena (t := 0) (j := 3) rfl rfl (.seq _ _) (fun hmax => ?_)
  refine c_seq ?_
  refine c_region ?_
  refine AOps.st 2 rfl rfl rfl (op_boxc (cs' := [_, _, _, _, _]) rfl rfl rfl rfl ?_)
  refine AOps.st 3 rfl rfl rfl (op_boxc (cs' := [_, _, _, _, _]) rfl rfl rfl rfl ?_)
  refine AOps.st 4 rfl rfl rfl (op_assign rfl rfl ?_)
  refine AOps.nil ?_
  refine go_code ?_
  refine c_seq ?_
  refine c_seq ?_
  refine c_bool 33 (¬ (k1 = k2 ∧ s1 = s2 ∧ n1 = n2 ∧ ks1.length = ks2.length)) ?_ _ _ rfl ?_
  · skip
    refine AOps.st 6 rfl rfl rfl (op_fieldAddr_c rfl tf_68_0 rfl rfl ?_)
    refine AOps.st 7 rfl rfl rfl (op_load_c1 rfl ta_3 rfl rfl ?_)
    refine AOps.st 8 rfl rfl rfl (op_fieldAddr_c rfl tf_68_0 rfl rfl ?_)
    refine AOps.st 9 rfl rfl rfl (op_load_c1 rfl ta_3 rfl rfl ?_)
    refine AOps.st 10 rfl rfl rfl (op_neq rfl rfl rfl ?_); intro c10 h10
    refine AOps.st 11 rfl rfl rfl (op_move rfl rfl ?_)
    rcases bool_split h10 with ⟨rfl, g10⟩ | ⟨rfl, g10⟩
    · skip
      refine AOps.gt 12 rfl rfl rfl rfl rfl (op_fieldAddr_c rfl tf_68_1 rfl rfl ?_)
      refine AOps.gt 13 rfl rfl rfl rfl rfl (op_load_c1 rfl ta_9 rfl rfl ?_)
      refine AOps.gt 14 rfl rfl rfl rfl rfl (op_fieldAddr_c rfl tf_68_1 rfl rfl ?_)
      refine AOps.gt 15 rfl rfl rfl rfl rfl (op_load_c1 rfl ta_9 rfl rfl ?_)
      refine AOps.gt 16 rfl rfl rfl rfl rfl (op_sneq rfl rfl rfl ?_); intro c16 h16
      refine AOps.st 17 rfl rfl rfl (op_pick rfl rfl rfl ?_)
      refine AOps.st 18 rfl rfl rfl (op_move rfl rfl ?_)
      rcases bool_split h16 with ⟨rfl, g16⟩ | ⟨rfl, g16⟩
      · skip
        refine AOps.gt 19 rfl rfl rfl rfl rfl (op_fieldAddr_c rfl tf_68_2 rfl rfl ?_)
        refine AOps.gt 20 rfl rfl rfl rfl rfl (op_load_c1 rfl ta_2 rfl rfl ?_)
        refine AOps.gt 21 rfl rfl rfl rfl rfl (op_fieldAddr_c rfl tf_68_2 rfl rfl ?_)
        refine AOps.gt 22 rfl rfl rfl rfl rfl (op_load_c1 rfl ta_2 rfl rfl ?_)
        refine AOps.gt 23 rfl rfl rfl rfl rfl (op_neq rfl rfl rfl ?_); intro c23 h23
        refine AOps.st 24 rfl rfl rfl (op_pick rfl rfl rfl ?_)
        refine AOps.st 25 rfl rfl rfl (op_move rfl rfl ?_)
        rcases bool_split h23 with ⟨rfl, g23⟩ | ⟨rfl, g23⟩
        · skip
          refine AOps.gt 26 rfl rfl rfl rfl rfl (op_fieldAddr_c rfl tf_68_3 rfl rfl ?_)
          refine AOps.gt 27 rfl rfl rfl rfl rfl (op_load_c1 rfl ta_66 rfl rfl ?_)
          refine AOps.gt 28 rfl rfl rfl rfl rfl (op_len rfl tu_66 rfl (.seq _ _) (fun n28 => ?_))
          refine AOps.gt 29 rfl rfl rfl rfl rfl (op_fieldAddr_c rfl tf_68_3 rfl rfl ?_)
          refine AOps.gt 30 rfl rfl rfl rfl rfl (op_load_c1 rfl ta_66 rfl rfl ?_)
          refine AOps.gt 31 rfl rfl rfl rfl rfl (op_len rfl tu_66 rfl (.seq _ _) (fun n31 => ?_))
          refine AOps.gt 32 rfl rfl rfl rfl rfl (op_neq rfl rfl rfl ?_); intro c32 h32
          refine AOps.st 33 rfl rfl rfl (op_pick rfl rfl rfl ?_)
          refine AOps.nil ?_
          refine BoolQ.mk rfl ?_ (by repeat' (first | exact SLe.wo _ _ | exact SLe.refl _ | refine SLe.fresh rfl ?_)) (by first | exact MLe.none _ | exact MLe.refl _ | (repeat' (first | exact MLe.nil | exact MLe.refl _ | refine MLe.cons _ ?_ | refine MLe.drop _ ?_)))
          first | (simp_all; done) | (simp_all; omega)
        · skip
          refine AOps.gf 26 rfl rfl rfl rfl rfl ?_
          refine AOps.gf 27 rfl rfl rfl rfl rfl ?_
          refine AOps.gf 28 rfl rfl rfl rfl rfl ?_
          refine AOps.gf 29 rfl rfl rfl rfl rfl ?_
          refine AOps.gf 30 rfl rfl rfl rfl rfl ?_
          refine AOps.gf 31 rfl rfl rfl rfl rfl ?_
          refine AOps.gf 32 rfl rfl rfl rfl rfl ?_
          refine AOps.st 33 rfl rfl rfl (op_pick rfl rfl rfl ?_)
          refine AOps.nil ?_
          refine BoolQ.mk rfl ?_ (by repeat' (first | exact SLe.wo _ _ | exact SLe.refl _ | refine SLe.fresh rfl ?_)) (by first | exact MLe.none _ | exact MLe.refl _ | (repeat' (first | exact MLe.nil | exact MLe.refl _ | refine MLe.cons _ ?_ | refine MLe.drop _ ?_)))
          simp_all; done
      · skip
        refine AOps.gf 19 rfl rfl rfl rfl rfl ?_
        refine AOps.gf 20 rfl rfl rfl rfl rfl ?_
        refine AOps.gf 21 rfl rfl rfl rfl rfl ?_
        refine AOps.gf 22 rfl rfl rfl rfl rfl ?_
        refine AOps.gf 23 rfl rfl rfl rfl rfl ?_
        refine AOps.st 24 rfl rfl rfl (op_pick rfl rfl rfl ?_)
        refine AOps.st 25 rfl rfl rfl (op_move rfl rfl ?_)
        refine AOps.gf 26 rfl rfl rfl rfl rfl ?_
        refine AOps.gf 27 rfl rfl rfl rfl rfl ?_
        refine AOps.gf 28 rfl rfl rfl rfl rfl ?_
        refine AOps.gf 29 rfl rfl rfl rfl rfl ?_
        refine AOps.gf 30 rfl rfl rfl rfl rfl ?_
        refine AOps.gf 31 rfl rfl rfl rfl rfl ?_
        refine AOps.gf 32 rfl rfl rfl rfl rfl ?_
        refine AOps.st 33 rfl rfl rfl (op_pick rfl rfl rfl ?_)
        refine AOps.nil ?_
        refine BoolQ.mk rfl ?_ (by repeat' (first | exact SLe.wo _ _ | exact SLe.refl _ | refine SLe.fresh rfl ?_)) (by first | exact MLe.none _ | exact MLe.refl _ | (repeat' (first | exact MLe.nil | exact MLe.refl _ | refine MLe.cons _ ?_ | refine MLe.drop _ ?_)))
        simp_all; done
    · skip
      refine AOps.gf 12 rfl rfl rfl rfl rfl ?_
      refine AOps.gf 13 rfl rfl rfl rfl rfl ?_
      refine AOps.gf 14 rfl rfl rfl rfl rfl ?_
      refine AOps.gf 15 rfl rfl rfl rfl rfl ?_
      refine AOps.gf 16 rfl rfl rfl rfl rfl ?_
      refine AOps.st 17 rfl rfl rfl (op_pick rfl rfl rfl ?_)
      refine AOps.st 18 rfl rfl rfl (op_move rfl rfl ?_)
      refine AOps.gf 19 rfl rfl rfl rfl rfl ?_
      refine AOps.gf 20 rfl rfl rfl rfl rfl ?_
      refine AOps.gf 21 rfl rfl rfl rfl rfl ?_
      refine AOps.gf 22 rfl rfl rfl rfl rfl ?_
      refine AOps.gf 23 rfl rfl rfl rfl rfl ?_
      refine AOps.st 24 rfl rfl rfl (op_pick rfl rfl rfl ?_)
      refine AOps.st 25 rfl rfl rfl (op_move rfl rfl ?_)
      refine AOps.gf 26 rfl rfl rfl rfl rfl ?_
      refine AOps.gf 27 rfl rfl rfl rfl rfl ?_
      refine AOps.gf 28 rfl rfl rfl rfl rfl ?_
      refine AOps.gf 29 rfl rfl rfl rfl rfl ?_
      refine AOps.gf 30 rfl rfl rfl rfl rfl ?_
      refine AOps.gf 31 rfl rfl rfl rfl rfl ?_
      refine AOps.gf 32 rfl rfl rfl rfl rfl ?_
      refine AOps.st 33 rfl rfl rfl (op_pick rfl rfl rfl ?_)
      refine AOps.nil ?_
      refine BoolQ.mk rfl ?_ (by repeat' (first | exact SLe.wo _ _ | exact SLe.refl _ | refine SLe.fresh rfl ?_)) (by first | exact MLe.none _ | exact MLe.refl _ | (repeat' (first | exact MLe.nil | exact MLe.refl _ | refine MLe.cons _ ?_ | refine MLe.drop _ ?_)))
      simp_all; done
  intro c33 h33
  refine go_code ?_
  rcases bool_split h33 with ⟨rfl, g33⟩ | ⟨rfl, g33⟩
  · refine c_cond_f rfl ?_
    refine c_skip ?_
    refine go_code ?_
    refine c_seq ?_
    refine c_seq ?_
    refine c_region ?_
    refine AOps.st 5 rfl rfl rfl (op_assign rfl rfl ?_)
    refine AOps.nil ?_
    refine go_code ?_
    refine c_block ?_
    refine c_loop (σ := Nat) (fun zz => match zz with | i => [(2, .cptr (Pa.mk k1 s1 n1 ks1 p1).cells), (3, .cptr (Pa.mk k2 s2 n2 ks2 p2).cells), (5, .val (.int .i64 i))]) (fun zz => match zz with | i => []) (fun zz => match zz with | i => i ≤ ks1.length ∧ Upto (ks1.map Pa.bare) (ks2.map Pa.bare) i) (fun zz => match zz with | i => ks1.length - i) (0) ?_ ?_ ?_ ?_
    · exact ⟨by omega, Upto.zero _ _⟩
    · exact (by repeat' (first | exact SLe.nil _ | refine SLe.cons rfl ?_ ?_ | exact Le.refl _ | exact Le.own _ _ _ | exact Le.nil _))
    · exact (by first | exact MLe.none _ | exact MLe.refl _ | (repeat' (first | exact MLe.nil | exact MLe.refl _ | refine MLe.cons _ ?_ | refine MLe.drop _ ?_)))
    rintro i hI
    try dsimp only at hI ⊢
    obtain ⟨hi, hu⟩ := hI
    obtain ⟨e1, e2, e3, e4⟩ := Classical.not_not.1 g33
    refine c_seq ?_
    refine c_seq ?_
    refine c_region ?_
    refine AOps.st 34 rfl rfl rfl (op_move rfl rfl ?_)
    refine AOps.st 35 rfl rfl rfl (op_fieldAddr_c rfl tf_68_3 rfl rfl ?_)
    refine AOps.st 36 rfl rfl rfl (op_load_c1 rfl ta_66 rfl rfl ?_)
    refine AOps.st 37 rfl rfl rfl (op_len rfl tu_66 rfl (.seq _ _) (fun n37 => ?_))
    refine AOps.st 38 rfl rfl rfl (op_lss rfl rfl rfl ?_); intro c38 h38
    refine AOps.nil ?_
    refine go_code ?_
    rcases bool_split h38 with ⟨rfl, g38⟩ | ⟨rfl, g38⟩
    · refine c_cond_f rfl ?_
      refine c_exit ?_
      refine x_code ?_
      refine x_lp ?_
      refine x_here ?_
      refine go_code ?_
      refine c_seq ?_
      refine c_region ?_
      refine AOps.st 4 rfl rfl rfl (op_assign rfl rfl ?_)
      refine AOps.nil ?_
      refine go_code ?_
      refine c_ret ?_
      refine out_tmp rfl rfl (Le.refl _) (by first | exact MLe.none _ | exact MLe.refl _ | (repeat' (first | exact MLe.nil | exact MLe.refl _ | refine MLe.cons _ ?_ | refine MLe.drop _ ?_))) ⟨⟨_, iff_t ?_, rfl⟩, rfl⟩
      rw [Pa.bare_iff]
      exact ⟨e1, e2, e3, hu.eq (by simpa using e4) (by simp; omega)⟩
    · refine c_cond_t rfl ?_
      refine c_skip ?_
      refine go_code ?_
      refine c_seq ?_
      refine c_block ?_
      refine c_seq ?_
      obtain ⟨⟨xk, xs, xn, xks, xp⟩, hx⟩ := get_some (l := ks1) (i := i) (by omega)
      obtain ⟨⟨yk, ys, yn, yks, yp⟩, hy⟩ := get_some (l := ks2) (i := i) (by omega)
      have hcx := Pa.cellss_get hx
      have hcy := Pa.cellss_get hy
      refine c_drawn tmix rfl ?_
      refine DOps.st 41 rfl rfl (op_fieldAddr_c rfl tf_68_3 rfl rfl ⟨rfl, rfl⟩) ?_
      refine DOps.st 42 rfl rfl (op_load_c1 rfl ta_66 rfl rfl ⟨rfl, rfl⟩) ?_
      refine DOps.st 43 rfl rfl (op_move rfl rfl ⟨rfl, rfl⟩) ?_
      refine DOps.st 44 rfl rfl (op_index rfl te_66 rfl (.seq _ _) rfl rfl (by assumption) ⟨rfl, rfl⟩) ?_
      first | (refine DOps.st 45 rfl rfl (op_load_m (cs' := [_, _, _, _, _]) (i := 0) rfl ta_68 rfl rfl rfl rfl ⟨rfl, rfl⟩) ?_) | (refine DOps.st 45 rfl rfl (op_load_m (cs' := [_, _, _, _, _]) (i := 1) rfl ta_68 rfl rfl rfl rfl ⟨rfl, rfl⟩) ?_) | (refine DOps.st 45 rfl rfl (op_load_m (cs' := [_, _, _, _, _]) (i := 2) rfl ta_68 rfl rfl rfl rfl ⟨rfl, rfl⟩) ?_) | (refine DOps.st 45 rfl rfl (op_load_m (cs' := [_, _, _, _, _]) (i := 3) rfl ta_68 rfl rfl rfl rfl ⟨rfl, rfl⟩) ?_) | (refine DOps.st 45 rfl rfl (op_load_m (cs' := [_, _, _, _, _]) (i := 4) rfl ta_68 rfl rfl rfl rfl ⟨rfl, rfl⟩) ?_) | (refine DOps.st 45 rfl rfl (op_load_m (cs' := [_, _, _, _, _]) (i := 5) rfl ta_68 rfl rfl rfl rfl ⟨rfl, rfl⟩) ?_) | (refine DOps.st 45 rfl rfl (op_load_c (cs' := [_, _, _, _, _]) rfl ta_68 rfl rfl rfl ⟨rfl, rfl⟩) ?_)
      refine DOps.st 46 rfl rfl (op_fieldAddr_c rfl tf_68_3 rfl rfl ⟨rfl, rfl⟩) ?_
      refine DOps.st 47 rfl rfl (op_load_c1 rfl ta_66 rfl rfl ⟨rfl, rfl⟩) ?_
      refine DOps.st 48 rfl rfl (op_move rfl rfl ⟨rfl, rfl⟩) ?_
      refine DOps.st 49 rfl rfl (op_index rfl te_66 rfl (.seq _ _) rfl rfl (by assumption) ⟨rfl, rfl⟩) ?_
      first | (refine DOps.st 50 rfl rfl (op_load_m (cs' := [_, _, _, _, _]) (i := 0) rfl ta_68 rfl rfl rfl rfl ⟨rfl, rfl⟩) ?_) | (refine DOps.st 50 rfl rfl (op_load_m (cs' := [_, _, _, _, _]) (i := 1) rfl ta_68 rfl rfl rfl rfl ⟨rfl, rfl⟩) ?_) | (refine DOps.st 50 rfl rfl (op_load_m (cs' := [_, _, _, _, _]) (i := 2) rfl ta_68 rfl rfl rfl rfl ⟨rfl, rfl⟩) ?_) | (refine DOps.st 50 rfl rfl (op_load_m (cs' := [_, _, _, _, _]) (i := 3) rfl ta_68 rfl rfl rfl rfl ⟨rfl, rfl⟩) ?_) | (refine DOps.st 50 rfl rfl (op_load_m (cs' := [_, _, _, _, _]) (i := 4) rfl ta_68 rfl rfl rfl rfl ⟨rfl, rfl⟩) ?_) | (refine DOps.st 50 rfl rfl (op_load_m (cs' := [_, _, _, _, _]) (i := 5) rfl ta_68 rfl rfl rfl rfl ⟨rfl, rfl⟩) ?_) | (refine DOps.st 50 rfl rfl (op_load_c (cs' := [_, _, _, _, _]) rfl ta_68 rfl rfl rfl ⟨rfl, rfl⟩) ?_)
      refine DOps.cm 51 rfl rfl (fun _ q => op_callb (xs := [.tmp 45, .tmp 50]) rfl rfl (IH _ (List.mem_of_getElem? hx) ⟨yk, ys, yn, yks, yp⟩) (by first | exact Les.refl _ | (repeat' (first | exact Les.refl _ | refine Les.cons ?_ ?_ | exact Le.refl _ | exact Le.own _ _ _ | exact Le.nil _ | refine Le.agg ?_))) q) ?_; intro c51 h51
      refine DOps.cm 52 rfl rfl (fun _ q => op_notc rfl rfl q) ?_; intro c52 h52
      try replace h52 := nott h52 h51
      show AGo _ _ _ _ _ _ _
      refine go_code ?_
      rcases bool_split h52 with ⟨rfl, g52⟩ | ⟨rfl, g52⟩
      · refine c_cond_f rfl ?_
        refine c_skip ?_
        refine go_blk ?_
        refine go_code ?_
        refine c_region ?_
        refine AOps.st 39 rfl rfl rfl (op_move rfl rfl ?_)
        refine AOps.st 40 rfl rfl rfl (op_add rfl rfl rfl (IntWalk.i64_in _ (by omega)) ?_)
        refine AOps.st 5 rfl rfl rfl (op_assign rfl rfl ?_)
        refine AOps.nil ?_
        refine go_lp ?_
        exact ⟨i + 1, ⟨by omega, upto_map Pa.bare hu hx hy (Classical.not_not.1 g52)⟩, by simp; omega, (by repeat' (first | exact SLe.nil _ | refine SLe.cons rfl ?_ ?_ | exact Le.refl _ | exact Le.own _ _ _ | exact Le.nil _)), (by first | exact MLe.none _ | exact MLe.refl _ | (repeat' (first | exact MLe.nil | exact MLe.refl _ | refine MLe.cons _ ?_ | refine MLe.drop _ ?_)))⟩
      · refine c_cond_t rfl ?_
        refine c_seq ?_
        refine c_region ?_
        refine AOps.st 4 rfl rfl rfl (op_assign rfl rfl ?_)
        refine AOps.nil ?_
        refine go_code ?_
        refine c_ret ?_
        refine out_tmp rfl rfl (Le.refl _) (by first | exact MLe.none _ | exact MLe.refl _ | (repeat' (first | exact MLe.nil | exact MLe.refl _ | refine MLe.cons _ ?_ | refine MLe.drop _ ?_))) ⟨⟨_, iff_f (fun q => ?_), rfl⟩, rfl⟩
        rw [Pa.bare_iff] at q
        exact map_ne Pa.bare hx hy g52 q.2.2.2
  · refine c_cond_t rfl ?_
    refine c_seq ?_
    refine c_region ?_
    refine AOps.st 4 rfl rfl rfl (op_assign rfl rfl ?_)
    refine AOps.nil ?_
    refine go_code ?_
    refine c_ret ?_
    refine out_tmp rfl rfl (Le.refl _) (by first | exact MLe.none _ | exact MLe.refl _ | (repeat' (first | exact MLe.nil | exact MLe.refl _ | refine MLe.cons _ ?_ | refine MLe.drop _ ?_))) ⟨⟨_, iff_f (fun q => g33 ?_), rfl⟩, rfl⟩
    rw [Pa.bare_iff] at q
    exact ⟨q.1, q.2.1, q.2.2.1, by simpa using congrArg List.length q.2.2.2⟩
termination_by SizeOf.sizeOf a
decreasing_by exact Pa.lt_kid hx
set_option maxHeartbeats 4000000 in
set_option maxRecDepth 100000 in
theorem sameBind_of (a b : Bi) (h : BCall Try.prog 45 [.agg a.e.cells, .agg b.e.cells] (a.e.bare = b.e.bare)) : BCall Try.prog 90 [.agg a.cells, .agg b.cells] (a.bare = b.bare) := by
  obtain ⟨bs1, ⟨k1, s1, n1, ⟨tk1, ts1, tn1, tks1⟩, ks1, al1, bb1, p1⟩, bp1⟩ := a
  obtain ⟨bs2, ⟨k2, s2, n2, ⟨tk2, ts2, tn2, tks2⟩, ks2, al2, bb2, p2⟩, bp2⟩ := b
  rw [Bi.bare_iff]
  simp only [Bi.e] at h
  generalize (Ex.mk k1 s1 n1 ⟨tk1, ts1, tn1, tks1⟩ ks1 al1 bb1 p1).bare = e1 at *
  generalize (Ex.mk k2 s2 n2 ⟨tk2, ts2, tn2, tks2⟩ ks2 al2 bb2 p2).bare = e2 at *
  refine ACall.enter Try.func90 rfl (by kernel_rfl) rfl (Nat.le_of_ble_eq_true rfl) ?_
  refine c_start ?_
  refine c_seq ?_
  refine c_region ?_
  refine AOps.st 2 rfl rfl rfl (op_boxc (cs' := [_, _, _, _, _, _, _, _, _, _, _, _, _]) rfl rfl rfl rfl ?_)
  refine AOps.st 3 rfl rfl rfl (op_boxc (cs' := [_, _, _, _, _, _, _, _, _, _, _, _, _]) rfl rfl rfl rfl ?_)
  refine AOps.st 4 rfl rfl rfl (op_assign rfl rfl ?_)
  refine AOps.nil ?_
  refine go_code ?_
  refine c_seq ?_
  refine c_bool 4 (bs1 = bs2 ∧ e1 = e2) ?_ _ _ rfl ?_
  · skip
    refine AOps.st 5 rfl rfl rfl (op_fieldAddr_c rfl tf_74_0 rfl rfl ?_)
    refine AOps.st 6 rfl rfl rfl (op_load_c1 rfl ta_9 rfl rfl ?_)
    refine AOps.st 7 rfl rfl rfl (op_fieldAddr_c rfl tf_74_0 rfl rfl ?_)
    refine AOps.st 8 rfl rfl rfl (op_load_c1 rfl ta_9 rfl rfl ?_)
    refine AOps.st 9 rfl rfl rfl (op_seql rfl rfl rfl ?_); intro c9 h9
    refine AOps.st 10 rfl rfl rfl (op_move rfl rfl ?_)
    rcases bool_split h9 with ⟨rfl, g9⟩ | ⟨rfl, g9⟩
    · skip
      refine AOps.gf 11 rfl rfl rfl rfl rfl ?_
      refine AOps.gf 12 rfl rfl rfl rfl rfl ?_
      refine AOps.gf 13 rfl rfl rfl rfl rfl ?_
      refine AOps.gf 14 rfl rfl rfl rfl rfl ?_
      refine AOps.gf 15 rfl rfl rfl rfl rfl ?_
      refine AOps.st 16 rfl rfl rfl (op_pick rfl rfl rfl ?_)
      refine AOps.st 4 rfl rfl rfl (op_assign rfl rfl ?_)
      refine AOps.nil ?_
      refine BoolQ.mk rfl ?_ (by repeat' (first | exact SLe.wo _ _ | exact SLe.refl _ | refine SLe.fresh rfl ?_)) (by first | exact MLe.none _ | exact MLe.refl _ | (repeat' (first | exact MLe.nil | exact MLe.refl _ | refine MLe.cons _ ?_ | refine MLe.drop _ ?_)))
      simp_all
    · skip
      refine AOps.gt 11 rfl rfl rfl rfl rfl (op_fieldAddr_c rfl tf_74_1 rfl rfl ?_)
      refine AOps.gt 12 rfl rfl rfl rfl rfl (op_load_c (cs' := [_, _, _, _, _, _, _, _, _, _, _]) rfl ta_60 rfl rfl rfl ?_)
      refine AOps.gt 13 rfl rfl rfl rfl rfl (op_fieldAddr_c rfl tf_74_1 rfl rfl ?_)
      refine AOps.gt 14 rfl rfl rfl rfl rfl (op_load_c (cs' := [_, _, _, _, _, _, _, _, _, _, _]) rfl ta_60 rfl rfl rfl ?_)
      refine AOps.gt 15 rfl rfl rfl rfl rfl (op_callb (xs := [.tmp 12, .tmp 14]) rfl rfl (h) (by first | exact Les.refl _ | (repeat' (first | exact Les.refl _ | refine Les.cons ?_ ?_ | exact Le.refl _ | exact Le.own _ _ _ | exact Le.nil _ | refine Le.agg ?_))) ?_); intro c15 h15
      refine AOps.st 16 rfl rfl rfl (op_pick rfl rfl rfl ?_)
      refine AOps.st 4 rfl rfl rfl (op_assign rfl rfl ?_)
      refine AOps.nil ?_
      refine BoolQ.mk rfl ?_ (by repeat' (first | exact SLe.wo _ _ | exact SLe.refl _ | refine SLe.fresh rfl ?_)) (by first | exact MLe.none _ | exact MLe.refl _ | (repeat' (first | exact MLe.nil | exact MLe.refl _ | refine MLe.cons _ ?_ | refine MLe.drop _ ?_)))
      simp_all
  intro c4 h4
  refine go_code ?_
  refine c_ret ?_
  exact out_tmp rfl rfl (Le.refl _) (by first | exact MLe.none _ | exact MLe.refl _ | (repeat' (first | exact MLe.nil | exact MLe.refl _ | refine MLe.cons _ ?_ | refine MLe.drop _ ?_))) ⟨⟨_, h4, rfl⟩, rfl⟩
set_option maxHeartbeats 4000000 in
set_option maxRecDepth 100000 in
theorem sameAlt_of (a b : Al) (h : BCall Try.prog 45 [.agg a.e.cells, .agg b.e.cells] (a.e.bare = b.e.bare)) : BCall Try.prog 87 [.agg a.cells, .agg b.cells] (a.bare = b.bare) := by
  obtain ⟨⟨qk1, qs1, qn1, qks1, qp1⟩, ⟨k1, s1, n1, ⟨tk1, ts1, tn1, tks1⟩, ks1, al1, bb1, p1⟩⟩ := a
  obtain ⟨⟨qk2, qs2, qn2, qks2, qp2⟩, ⟨k2, s2, n2, ⟨tk2, ts2, tn2, tks2⟩, ks2, al2, bb2, p2⟩⟩ := b
  rw [Al.bare_iff]
  simp only [Al.e] at h
  have HP := tSamePat_c ⟨qk1, qs1, qn1, qks1, qp1⟩ ⟨qk2, qs2, qn2, qks2, qp2⟩
  generalize (Ex.mk k1 s1 n1 ⟨tk1, ts1, tn1, tks1⟩ ks1 al1 bb1 p1).bare = e1 at *
  generalize (Ex.mk k2 s2 n2 ⟨tk2, ts2, tn2, tks2⟩ ks2 al2 bb2 p2).bare = e2 at *
  generalize (Pa.mk qk1 qs1 qn1 qks1 qp1).bare = q1 at *
  generalize (Pa.mk qk2 qs2 qn2 qks2 qp2).bare = q2 at *
  refine ACall.enter Try.func87 rfl (by kernel_rfl) rfl (Nat.le_of_ble_eq_true rfl) ?_
  refine c_start ?_
  refine c_seq ?_
  refine c_region ?_
  refine AOps.st 2 rfl rfl rfl (op_boxc (cs' := [_, _, _, _, _, _, _, _, _, _, _, _, _, _, _, _]) rfl rfl rfl rfl ?_)
  refine AOps.st 3 rfl rfl rfl (op_boxc (cs' := [_, _, _, _, _, _, _, _, _, _, _, _, _, _, _, _]) rfl rfl rfl rfl ?_)
  refine AOps.st 4 rfl rfl rfl (op_assign rfl rfl ?_)
  refine AOps.nil ?_
  refine go_code ?_
  refine c_seq ?_
  refine c_bool 4 (q1 = q2 ∧ e1 = e2) ?_ _ _ rfl ?_
  · skip
    refine AOps.st 5 rfl rfl rfl (op_fieldAddr_c rfl tf_70_0 rfl rfl ?_)
    refine AOps.st 6 rfl rfl rfl (op_load_c (cs' := [_, _, _, _, _]) rfl ta_68 rfl rfl rfl ?_)
    refine AOps.st 7 rfl rfl rfl (op_fieldAddr_c rfl tf_70_0 rfl rfl ?_)
    refine AOps.st 8 rfl rfl rfl (op_load_c (cs' := [_, _, _, _, _]) rfl ta_68 rfl rfl rfl ?_)
    refine AOps.st 9 rfl rfl rfl (op_callb (xs := [.tmp 6, .tmp 8]) rfl rfl (HP) (by first | exact Les.refl _ | (repeat' (first | exact Les.refl _ | refine Les.cons ?_ ?_ | exact Le.refl _ | exact Le.own _ _ _ | exact Le.nil _ | refine Le.agg ?_))) ?_); intro c9 h9
    refine AOps.st 10 rfl rfl rfl (op_move rfl rfl ?_)
    rcases bool_split h9 with ⟨rfl, g9⟩ | ⟨rfl, g9⟩
    · skip
      refine AOps.gf 11 rfl rfl rfl rfl rfl ?_
      refine AOps.gf 12 rfl rfl rfl rfl rfl ?_
      refine AOps.gf 13 rfl rfl rfl rfl rfl ?_
      refine AOps.gf 14 rfl rfl rfl rfl rfl ?_
      refine AOps.gf 15 rfl rfl rfl rfl rfl ?_
      refine AOps.st 16 rfl rfl rfl (op_pick rfl rfl rfl ?_)
      refine AOps.st 4 rfl rfl rfl (op_assign rfl rfl ?_)
      refine AOps.nil ?_
      refine BoolQ.mk rfl ?_ (by repeat' (first | exact SLe.wo _ _ | exact SLe.refl _ | refine SLe.fresh rfl ?_)) (by first | exact MLe.none _ | exact MLe.refl _ | (repeat' (first | exact MLe.nil | exact MLe.refl _ | refine MLe.cons _ ?_ | refine MLe.drop _ ?_)))
      simp_all
    · skip
      refine AOps.gt 11 rfl rfl rfl rfl rfl (op_fieldAddr_c rfl tf_70_1 rfl rfl ?_)
      refine AOps.gt 12 rfl rfl rfl rfl rfl (op_load_c (cs' := [_, _, _, _, _, _, _, _, _, _, _]) rfl ta_60 rfl rfl rfl ?_)
      refine AOps.gt 13 rfl rfl rfl rfl rfl (op_fieldAddr_c rfl tf_70_1 rfl rfl ?_)
      refine AOps.gt 14 rfl rfl rfl rfl rfl (op_load_c (cs' := [_, _, _, _, _, _, _, _, _, _, _]) rfl ta_60 rfl rfl rfl ?_)
      refine AOps.gt 15 rfl rfl rfl rfl rfl (op_callb (xs := [.tmp 12, .tmp 14]) rfl rfl (h) (by first | exact Les.refl _ | (repeat' (first | exact Les.refl _ | refine Les.cons ?_ ?_ | exact Le.refl _ | exact Le.own _ _ _ | exact Le.nil _ | refine Le.agg ?_))) ?_); intro c15 h15
      refine AOps.st 16 rfl rfl rfl (op_pick rfl rfl rfl ?_)
      refine AOps.st 4 rfl rfl rfl (op_assign rfl rfl ?_)
      refine AOps.nil ?_
      refine BoolQ.mk rfl ?_ (by repeat' (first | exact SLe.wo _ _ | exact SLe.refl _ | refine SLe.fresh rfl ?_)) (by first | exact MLe.none _ | exact MLe.refl _ | (repeat' (first | exact MLe.nil | exact MLe.refl _ | refine MLe.cons _ ?_ | refine MLe.drop _ ?_)))
      simp_all
  intro c4 h4
  refine go_code ?_
  refine c_ret ?_
  exact out_tmp rfl rfl (Le.refl _) (by first | exact MLe.none _ | exact MLe.refl _ | (repeat' (first | exact MLe.nil | exact MLe.refl _ | refine MLe.cons _ ?_ | refine MLe.drop _ ?_))) ⟨⟨_, h4, rfl⟩, rfl⟩
set_option maxHeartbeats 4000000 in
set_option maxRecDepth 100000 in
theorem tSame_c (a : Ex) : ∀ b : Ex, BCall Try.prog 45 [.agg a.cells, .agg b.cells] (a.bare = b.bare) := by
  obtain ⟨k1, s1, n1, ⟨tk1, ts1, tn1, tks1⟩, ks1, al1, bb1, p1⟩ := a
  rintro ⟨k2, s2, n2, ⟨tk2, ts2, tn2, tks2⟩, ks2, al2, bb2, p2⟩
  have HK := Eqs_Ex Ex.bare 45 ks1 ks2 (fun x hx y => tSame_c x y)
  have HB := Eqs_Bi Bi.bare 90 bb1 bb2 (fun x hx y => sameBind_of x y (tSame_c x.e y.e))
  have HA := Eqs_Al Al.bare 87 al1 al2 (fun x hx y => sameAlt_of x y (tSame_c x.e y.e))
  have HT := tSameType_c ⟨tk1, ts1, tn1, tks1⟩ ⟨tk2, ts2, tn2, tks2⟩
  rw [Ex.bare_iff]
  generalize ks1.map Ex.bare = mk1 at *
  generalize ks2.map Ex.bare = mk2 at *
  generalize bb1.map Bi.bare = mb1 at *
  generalize bb2.map Bi.bare = mb2 at *
  generalize al1.map Al.bare = ma1 at *
  generalize al2.map Al.bare = ma2 at *
  refine ACall.enter Try.func45 rfl (by kernel_rfl) rfl (Nat.le_of_ble_eq_true rfl) ?_
  refine c_start ?_
  refine c_seq ?_
  refine c_region ?_
  refine AOps.st 2 rfl rfl rfl (op_boxc (cs' := [_, _, _, _, _, _, _, _, _, _, _]) rfl rfl rfl rfl ?_)
  refine AOps.st 3 rfl rfl rfl (op_boxc (cs' := [_, _, _, _, _, _, _, _, _, _, _]) rfl rfl rfl rfl ?_)
  refine AOps.st 4 rfl rfl rfl (op_assign rfl rfl ?_)
  refine AOps.nil ?_
  refine go_code ?_
  refine c_seq ?_
  refine c_seq ?_
  refine c_bool 32 (¬ (k1 = k2 ∧ s1 = s2 ∧ n1 = n2 ∧ Ty.mk tk1 ts1 tn1 tks1 = Ty.mk tk2 ts2 tn2 tks2)) ?_ _ _ rfl ?_
  · skip
    refine AOps.st 6 rfl rfl rfl (op_fieldAddr_c rfl tf_60_0 rfl rfl ?_)
    refine AOps.st 7 rfl rfl rfl (op_load_c1 rfl ta_3 rfl rfl ?_)
    refine AOps.st 8 rfl rfl rfl (op_fieldAddr_c rfl tf_60_0 rfl rfl ?_)
    refine AOps.st 9 rfl rfl rfl (op_load_c1 rfl ta_3 rfl rfl ?_)
    refine AOps.st 10 rfl rfl rfl (op_neq rfl rfl rfl ?_); intro c10 h10
    refine AOps.st 11 rfl rfl rfl (op_move rfl rfl ?_)
    rcases bool_split h10 with ⟨rfl, g10⟩ | ⟨rfl, g10⟩
    · skip
      refine AOps.gt 12 rfl rfl rfl rfl rfl (op_fieldAddr_c rfl tf_60_1 rfl rfl ?_)
      refine AOps.gt 13 rfl rfl rfl rfl rfl (op_load_c1 rfl ta_9 rfl rfl ?_)
      refine AOps.gt 14 rfl rfl rfl rfl rfl (op_fieldAddr_c rfl tf_60_1 rfl rfl ?_)
      refine AOps.gt 15 rfl rfl rfl rfl rfl (op_load_c1 rfl ta_9 rfl rfl ?_)
      refine AOps.gt 16 rfl rfl rfl rfl rfl (op_sneq rfl rfl rfl ?_); intro c16 h16
      refine AOps.st 17 rfl rfl rfl (op_pick rfl rfl rfl ?_)
      refine AOps.st 18 rfl rfl rfl (op_move rfl rfl ?_)
      rcases bool_split h16 with ⟨rfl, g16⟩ | ⟨rfl, g16⟩
      · skip
        refine AOps.gt 19 rfl rfl rfl rfl rfl (op_fieldAddr_c rfl tf_60_2 rfl rfl ?_)
        refine AOps.gt 20 rfl rfl rfl rfl rfl (op_load_c1 rfl ta_2 rfl rfl ?_)
        refine AOps.gt 21 rfl rfl rfl rfl rfl (op_fieldAddr_c rfl tf_60_2 rfl rfl ?_)
        refine AOps.gt 22 rfl rfl rfl rfl rfl (op_load_c1 rfl ta_2 rfl rfl ?_)
        refine AOps.gt 23 rfl rfl rfl rfl rfl (op_neq rfl rfl rfl ?_); intro c23 h23
        refine AOps.st 24 rfl rfl rfl (op_pick rfl rfl rfl ?_)
        refine AOps.st 25 rfl rfl rfl (op_move rfl rfl ?_)
        rcases bool_split h23 with ⟨rfl, g23⟩ | ⟨rfl, g23⟩
        · skip
          refine AOps.gt 26 rfl rfl rfl rfl rfl (op_fieldAddr_c rfl tf_60_3 rfl rfl ?_)
          refine AOps.gt 27 rfl rfl rfl rfl rfl (op_load_c (cs' := [_, _, _, _]) rfl ta_24 rfl rfl rfl ?_)
          refine AOps.gt 28 rfl rfl rfl rfl rfl (op_fieldAddr_c rfl tf_60_3 rfl rfl ?_)
          refine AOps.gt 29 rfl rfl rfl rfl rfl (op_load_c (cs' := [_, _, _, _]) rfl ta_24 rfl rfl rfl ?_)
          refine AOps.gt 30 rfl rfl rfl rfl rfl (op_callb (xs := [.tmp 27, .tmp 29]) rfl rfl (HT) (by first | exact Les.refl _ | (repeat' (first | exact Les.refl _ | refine Les.cons ?_ ?_ | exact Le.refl _ | exact Le.own _ _ _ | exact Le.nil _ | refine Le.agg ?_))) ?_); intro c30 h30
          refine AOps.gt 31 rfl rfl rfl rfl rfl (op_notc rfl rfl ?_); intro c31 h31
          try replace h31 := nott h31 h30
          refine AOps.st 32 rfl rfl rfl (op_pick rfl rfl rfl ?_)
          refine AOps.nil ?_
          refine BoolQ.mk rfl ?_ (by repeat' (first | exact SLe.wo _ _ | exact SLe.refl _ | refine SLe.fresh rfl ?_)) (by first | exact MLe.none _ | exact MLe.refl _ | (repeat' (first | exact MLe.nil | exact MLe.refl _ | refine MLe.cons _ ?_ | refine MLe.drop _ ?_)))
          simp_all
        · skip
          refine AOps.gf 26 rfl rfl rfl rfl rfl ?_
          refine AOps.gf 27 rfl rfl rfl rfl rfl ?_
          refine AOps.gf 28 rfl rfl rfl rfl rfl ?_
          refine AOps.gf 29 rfl rfl rfl rfl rfl ?_
          refine AOps.gf 30 rfl rfl rfl rfl rfl ?_
          refine AOps.gf 31 rfl rfl rfl rfl rfl ?_
          refine AOps.st 32 rfl rfl rfl (op_pick rfl rfl rfl ?_)
          refine AOps.nil ?_
          refine BoolQ.mk rfl ?_ (by repeat' (first | exact SLe.wo _ _ | exact SLe.refl _ | refine SLe.fresh rfl ?_)) (by first | exact MLe.none _ | exact MLe.refl _ | (repeat' (first | exact MLe.nil | exact MLe.refl _ | refine MLe.cons _ ?_ | refine MLe.drop _ ?_)))
          simp_all
      · skip
        refine AOps.gf 19 rfl rfl rfl rfl rfl ?_
        refine AOps.gf 20 rfl rfl rfl rfl rfl ?_
        refine AOps.gf 21 rfl rfl rfl rfl rfl ?_
        refine AOps.gf 22 rfl rfl rfl rfl rfl ?_
        refine AOps.gf 23 rfl rfl rfl rfl rfl ?_
        refine AOps.st 24 rfl rfl rfl (op_pick rfl rfl rfl ?_)
        refine AOps.st 25 rfl rfl rfl (op_move rfl rfl ?_)
        refine AOps.gf 26 rfl rfl rfl rfl rfl ?_
        refine AOps.gf 27 rfl rfl rfl rfl rfl ?_
        refine AOps.gf 28 rfl rfl rfl rfl rfl ?_
        refine AOps.gf 29 rfl rfl rfl rfl rfl ?_
        refine AOps.gf 30 rfl rfl rfl rfl rfl ?_
        refine AOps.gf 31 rfl rfl rfl rfl rfl ?_
        refine AOps.st 32 rfl rfl rfl (op_pick rfl rfl rfl ?_)
        refine AOps.nil ?_
        refine BoolQ.mk rfl ?_ (by repeat' (first | exact SLe.wo _ _ | exact SLe.refl _ | refine SLe.fresh rfl ?_)) (by first | exact MLe.none _ | exact MLe.refl _ | (repeat' (first | exact MLe.nil | exact MLe.refl _ | refine MLe.cons _ ?_ | refine MLe.drop _ ?_)))
        simp_all
    · skip
      refine AOps.gf 12 rfl rfl rfl rfl rfl ?_
      refine AOps.gf 13 rfl rfl rfl rfl rfl ?_
      refine AOps.gf 14 rfl rfl rfl rfl rfl ?_
      refine AOps.gf 15 rfl rfl rfl rfl rfl ?_
      refine AOps.gf 16 rfl rfl rfl rfl rfl ?_
      refine AOps.st 17 rfl rfl rfl (op_pick rfl rfl rfl ?_)
      refine AOps.st 18 rfl rfl rfl (op_move rfl rfl ?_)
      refine AOps.gf 19 rfl rfl rfl rfl rfl ?_
      refine AOps.gf 20 rfl rfl rfl rfl rfl ?_
      refine AOps.gf 21 rfl rfl rfl rfl rfl ?_
      refine AOps.gf 22 rfl rfl rfl rfl rfl ?_
      refine AOps.gf 23 rfl rfl rfl rfl rfl ?_
      refine AOps.st 24 rfl rfl rfl (op_pick rfl rfl rfl ?_)
      refine AOps.st 25 rfl rfl rfl (op_move rfl rfl ?_)
      refine AOps.gf 26 rfl rfl rfl rfl rfl ?_
      refine AOps.gf 27 rfl rfl rfl rfl rfl ?_
      refine AOps.gf 28 rfl rfl rfl rfl rfl ?_
      refine AOps.gf 29 rfl rfl rfl rfl rfl ?_
      refine AOps.gf 30 rfl rfl rfl rfl rfl ?_
      refine AOps.gf 31 rfl rfl rfl rfl rfl ?_
      refine AOps.st 32 rfl rfl rfl (op_pick rfl rfl rfl ?_)
      refine AOps.nil ?_
      refine BoolQ.mk rfl ?_ (by repeat' (first | exact SLe.wo _ _ | exact SLe.refl _ | refine SLe.fresh rfl ?_)) (by first | exact MLe.none _ | exact MLe.refl _ | (repeat' (first | exact MLe.nil | exact MLe.refl _ | refine MLe.cons _ ?_ | refine MLe.drop _ ?_)))
      simp_all
  intro c32 h32
  refine go_code ?_
  rcases bool_split h32 with ⟨rfl, g32⟩ | ⟨rfl, g32⟩
  · refine c_cond_f rfl ?_
    refine c_skip ?_
    refine go_code ?_
    refine c_seq ?_
    refine c_region ?_
    refine AOps.st 5 rfl rfl rfl (op_assign rfl rfl ?_)
    refine AOps.nil ?_
    refine go_code ?_
    refine c_seq ?_
    refine c_bool 4 (mk1 = mk2 ∧ mb1 = mb2 ∧ ma1 = ma2) ?_ _ _ rfl ?_
    · skip
      refine AOps.st 33 rfl rfl rfl (op_fieldAddr_c rfl tf_60_4 rfl rfl ?_)
      refine AOps.st 34 rfl rfl rfl (op_load_c1 rfl ta_56 rfl rfl ?_)
      refine AOps.st 35 rfl rfl rfl (op_fieldAddr_c rfl tf_60_4 rfl rfl ?_)
      refine AOps.st 36 rfl rfl rfl (op_load_c1 rfl ta_56 rfl rfl ?_)
      refine AOps.st 37 rfl rfl rfl (op_callb (xs := [.tmp 34, .tmp 36, .func 45]) rfl rfl (HK) (by first | exact Les.refl _ | (repeat' (first | exact Les.refl _ | refine Les.cons ?_ ?_ | exact Le.refl _ | exact Le.own _ _ _ | exact Le.nil _ | refine Le.agg ?_))) ?_); intro c37 h37
      refine AOps.st 38 rfl rfl rfl (op_move rfl rfl ?_)
      rcases bool_split h37 with ⟨rfl, g37⟩ | ⟨rfl, g37⟩
      · skip
        refine AOps.gf 39 rfl rfl rfl rfl rfl ?_
        refine AOps.gf 40 rfl rfl rfl rfl rfl ?_
        refine AOps.gf 41 rfl rfl rfl rfl rfl ?_
        refine AOps.gf 42 rfl rfl rfl rfl rfl ?_
        refine AOps.gf 43 rfl rfl rfl rfl rfl ?_
        refine AOps.st 44 rfl rfl rfl (op_pick rfl rfl rfl ?_)
        refine AOps.st 45 rfl rfl rfl (op_move rfl rfl ?_)
        refine AOps.gf 46 rfl rfl rfl rfl rfl ?_
        refine AOps.gf 47 rfl rfl rfl rfl rfl ?_
        refine AOps.gf 48 rfl rfl rfl rfl rfl ?_
        refine AOps.gf 49 rfl rfl rfl rfl rfl ?_
        refine AOps.gf 50 rfl rfl rfl rfl rfl ?_
        refine AOps.gf 51 rfl rfl rfl rfl rfl ?_
        refine AOps.st 52 rfl rfl rfl (op_pick rfl rfl rfl ?_)
        refine AOps.st 4 rfl rfl rfl (op_assign rfl rfl ?_)
        refine AOps.nil ?_
        refine BoolQ.mk rfl ?_ (by repeat' (first | exact SLe.wo _ _ | exact SLe.refl _ | refine SLe.fresh rfl ?_)) (by first | exact MLe.none _ | exact MLe.refl _ | (repeat' (first | exact MLe.nil | exact MLe.refl _ | refine MLe.cons _ ?_ | refine MLe.drop _ ?_)))
        simp_all
      · skip
        refine AOps.gt 39 rfl rfl rfl rfl rfl (op_fieldAddr_c rfl tf_60_6 rfl rfl ?_)
        refine AOps.gt 40 rfl rfl rfl rfl rfl (op_load_c1 rfl ta_58 rfl rfl ?_)
        refine AOps.gt 41 rfl rfl rfl rfl rfl (op_fieldAddr_c rfl tf_60_6 rfl rfl ?_)
        refine AOps.gt 42 rfl rfl rfl rfl rfl (op_load_c1 rfl ta_58 rfl rfl ?_)
        refine AOps.gt 43 rfl rfl rfl rfl rfl (op_callb (xs := [.tmp 40, .tmp 42, .func 90]) rfl rfl (HB) (by first | exact Les.refl _ | (repeat' (first | exact Les.refl _ | refine Les.cons ?_ ?_ | exact Le.refl _ | exact Le.own _ _ _ | exact Le.nil _ | refine Le.agg ?_))) ?_); intro c43 h43
        refine AOps.st 44 rfl rfl rfl (op_pick rfl rfl rfl ?_)
        refine AOps.st 45 rfl rfl rfl (op_move rfl rfl ?_)
        rcases bool_split h43 with ⟨rfl, g43⟩ | ⟨rfl, g43⟩
        · skip
          refine AOps.gf 46 rfl rfl rfl rfl rfl ?_
          refine AOps.gf 47 rfl rfl rfl rfl rfl ?_
          refine AOps.gf 48 rfl rfl rfl rfl rfl ?_
          refine AOps.gf 49 rfl rfl rfl rfl rfl ?_
          refine AOps.gf 50 rfl rfl rfl rfl rfl ?_
          refine AOps.gf 51 rfl rfl rfl rfl rfl ?_
          refine AOps.st 52 rfl rfl rfl (op_pick rfl rfl rfl ?_)
          refine AOps.st 4 rfl rfl rfl (op_assign rfl rfl ?_)
          refine AOps.nil ?_
          refine BoolQ.mk rfl ?_ (by repeat' (first | exact SLe.wo _ _ | exact SLe.refl _ | refine SLe.fresh rfl ?_)) (by first | exact MLe.none _ | exact MLe.refl _ | (repeat' (first | exact MLe.nil | exact MLe.refl _ | refine MLe.cons _ ?_ | refine MLe.drop _ ?_)))
          simp_all
        · skip
          refine AOps.gt 46 rfl rfl rfl rfl rfl (op_fieldAddr_c rfl tf_60_5 rfl rfl ?_)
          refine AOps.gt 47 rfl rfl rfl rfl rfl (op_load_c1 rfl ta_57 rfl rfl ?_)
          refine AOps.gt 48 rfl rfl rfl rfl rfl (op_fieldAddr_c rfl tf_60_5 rfl rfl ?_)
          refine AOps.gt 49 rfl rfl rfl rfl rfl (op_load_c1 rfl ta_57 rfl rfl ?_)
          refine AOps.gt 50 rfl rfl rfl rfl rfl (op_move rfl rfl ?_)
          refine AOps.gt 51 rfl rfl rfl rfl rfl (op_callb (xs := [.tmp 47, .tmp 49, .tmp 50]) rfl rfl (HA) (by first | exact Les.refl _ | (repeat' (first | exact Les.refl _ | refine Les.cons ?_ ?_ | exact Le.refl _ | exact Le.own _ _ _ | exact Le.nil _ | refine Le.agg ?_))) ?_); intro c51 h51
          refine AOps.st 52 rfl rfl rfl (op_pick rfl rfl rfl ?_)
          refine AOps.st 4 rfl rfl rfl (op_assign rfl rfl ?_)
          refine AOps.nil ?_
          refine BoolQ.mk rfl ?_ (by repeat' (first | exact SLe.wo _ _ | exact SLe.refl _ | refine SLe.fresh rfl ?_)) (by first | exact MLe.none _ | exact MLe.refl _ | (repeat' (first | exact MLe.nil | exact MLe.refl _ | refine MLe.cons _ ?_ | refine MLe.drop _ ?_)))
          simp_all
    intro c4 h4
    refine go_code ?_
    refine c_ret ?_
    obtain ⟨e1, e2, e3, e4⟩ := Classical.not_not.1 g32
    exact out_tmp rfl rfl (Le.refl _) (by first | exact MLe.none _ | exact MLe.refl _ | (repeat' (first | exact MLe.nil | exact MLe.refl _ | refine MLe.cons _ ?_ | refine MLe.drop _ ?_))) ⟨⟨_, h4.trans ⟨fun q => ⟨e1, e2, e3, e4, q.1, q.2.2, q.2.1⟩, fun q => ⟨q.2.2.2.2.1, q.2.2.2.2.2.2, q.2.2.2.2.2.1⟩⟩, rfl⟩, rfl⟩
  · refine c_cond_t rfl ?_
    refine c_seq ?_
    refine c_region ?_
    refine AOps.st 4 rfl rfl rfl (op_assign rfl rfl ?_)
    refine AOps.nil ?_
    refine go_code ?_
    refine c_ret ?_
    exact out_tmp rfl rfl (Le.refl _) (by first | exact MLe.none _ | exact MLe.refl _ | (repeat' (first | exact MLe.nil | exact MLe.refl _ | refine MLe.cons _ ?_ | refine MLe.drop _ ?_))) ⟨⟨_, iff_f (fun q => g32 ⟨q.1, q.2.1, q.2.2.1, q.2.2.2.1⟩), rfl⟩, rfl⟩
termination_by SizeOf.sizeOf a
decreasing_by
  · exact Ex.lt_kid hx
  · exact Nat.lt_trans (Bi.lt_e x) (Ex.lt_bind hx)
  · exact Nat.lt_trans (Al.lt_e x) (Ex.lt_alt hx)
set_option maxHeartbeats 4000000 in
set_option maxRecDepth 100000 in
theorem SameBinds_of (xs ys : List Bi) (IH : ∀ x ∈ xs, ∀ y : Ex, BCall Try.prog 46 [.agg x.e.cells, .agg y.cells] (x.e.bare = y.bare)) : BCall Try.prog 92 [.seq 13 (Bi.cellss xs), .seq 13 (Bi.cellss ys)] (xs.map Bi.bare = ys.map Bi.bare) := by
  have hlx := Bi.cellss_len xs
  have hly := Bi.cellss_len ys
  refine ACall.enter Try.func92 rfl (by kernel_rfl) rfl (Nat.le_of_ble_eq_true rfl) ?_
  refine c_start ?_
  refine c_lens (t := 0) rfl (.seq _ _) (fun hmax => ?_)
  refine c_seq ?_
  refine c_region ?_
  refine AOps.st 4 rfl rfl rfl (op_assign rfl rfl ?_)
  refine AOps.nil ?_
  refine go_code ?_
  refine c_seq ?_
  refine c_seq ?_
  refine c_region ?_
  refine AOps.st 6 rfl rfl rfl (op_move rfl rfl ?_)
  refine AOps.st 7 rfl rfl rfl (op_len rfl tu_58 rfl (.seq _ _) (fun n7 => ?_))
  refine AOps.st 8 rfl rfl rfl (op_move rfl rfl ?_)
  refine AOps.st 9 rfl rfl rfl (op_len rfl tu_58 rfl (.seq _ _) (fun n9 => ?_))
  refine AOps.st 10 rfl rfl rfl (op_neq rfl rfl rfl ?_); intro c10 h10
  refine AOps.nil ?_
  refine go_code ?_
  rcases bool_split h10 with ⟨rfl, g10⟩ | ⟨rfl, g10⟩
  · refine c_cond_f rfl ?_
    refine c_skip ?_
    refine go_code ?_
    refine c_seq ?_
    refine c_seq ?_
    refine c_region ?_
    refine AOps.st 5 rfl rfl rfl (op_assign rfl rfl ?_)
    refine AOps.nil ?_
    refine go_code ?_
    refine c_block ?_
    refine c_loop (σ := Nat) (fun zz => match zz with | i => [(0, .seq 13 (Bi.cellss xs)), (1, .seq 13 (Bi.cellss ys)), (5, .val (.int .i64 i))]) (fun zz => match zz with | i => []) (fun zz => match zz with | i => i ≤ xs.length ∧ Upto (xs.map Bi.bare) (ys.map Bi.bare) i) (fun zz => match zz with | i => xs.length - i) (0) ?_ ?_ ?_ ?_
    · exact ⟨by omega, Upto.zero _ _⟩
    · exact (by repeat' (first | exact SLe.nil _ | refine SLe.cons rfl ?_ ?_ | exact Le.refl _ | exact Le.own _ _ _ | exact Le.nil _))
    · exact (by first | exact MLe.none _ | exact MLe.refl _ | (repeat' (first | exact MLe.nil | exact MLe.refl _ | refine MLe.cons _ ?_ | refine MLe.drop _ ?_)))
    rintro i hI
    try dsimp only at hI ⊢
    obtain ⟨hi, hu⟩ := hI
    refine c_seq ?_
    refine c_seq ?_
    refine c_region ?_
    refine AOps.st 11 rfl rfl rfl (op_move rfl rfl ?_)
    refine AOps.st 12 rfl rfl rfl (op_move rfl rfl ?_)
    refine AOps.st 13 rfl rfl rfl (op_len rfl tu_58 rfl (.seq _ _) (fun n13 => ?_))
    refine AOps.st 14 rfl rfl rfl (op_lss rfl rfl rfl ?_); intro c14 h14
    refine AOps.nil ?_
    refine go_code ?_
    rcases bool_split h14 with ⟨rfl, g14⟩ | ⟨rfl, g14⟩
    · refine c_cond_f rfl ?_
      refine c_exit ?_
      refine x_code ?_
      refine x_lp ?_
      refine x_here ?_
      refine go_code ?_
      refine c_seq ?_
      refine c_region ?_
      refine AOps.st 4 rfl rfl rfl (op_assign rfl rfl ?_)
      refine AOps.nil ?_
      refine go_code ?_
      refine c_ret ?_
      exact out_tmp rfl rfl (Le.refl _) (by first | exact MLe.none _ | exact MLe.refl _ | (repeat' (first | exact MLe.nil | exact MLe.refl _ | refine MLe.cons _ ?_ | refine MLe.drop _ ?_))) ⟨⟨_, iff_t (hu.eq (by simp; omega) (by simp; omega)), rfl⟩, rfl⟩
    · refine c_cond_t rfl ?_
      refine c_skip ?_
      refine go_code ?_
      refine c_seq ?_
      refine c_block ?_
      refine c_seq ?_
      obtain ⟨⟨bs1, ⟨k1, s1, n1, ⟨tk1, ts1, tn1, tks1⟩, ks1, al1, bb1, p1⟩, bp1⟩, hx⟩ := get_some (l := xs) (i := i) (by omega)
      obtain ⟨⟨bs2, ⟨k2, s2, n2, ⟨tk2, ts2, tn2, tks2⟩, ks2, al2, bb2, p2⟩, bp2⟩, hy⟩ := get_some (l := ys) (i := i) (by omega)
      have hcx := Bi.cellss_get hx
      have hcy := Bi.cellss_get hy
      have HS := IH _ (List.mem_of_getElem? hx) ⟨k2, s2, n2, ⟨tk2, ts2, tn2, tks2⟩, ks2, al2, bb2, p2⟩
      have hne := fun e => map_ne Bi.bare hx hy e
      have heq := fun e => upto_map Bi.bare hu hx hy e
      rw [Bi.bare_iff] at hne heq
      simp only [Bi.e] at HS
      generalize (Ex.mk k1 s1 n1 ⟨tk1, ts1, tn1, tks1⟩ ks1 al1 bb1 p1).bare = e1 at *
      generalize (Ex.mk k2 s2 n2 ⟨tk2, ts2, tn2, tks2⟩ ks2 al2 bb2 p2).bare = e2 at *
      refine c_boold 41 (¬ (bs1 = bs2 ∧ e1 = e2)) tmix rfl ?_ _ _ rfl ?_
      · skip
        refine DOps.st 17 rfl rfl (op_move rfl rfl ⟨rfl, rfl⟩) ?_
        refine DOps.st 18 rfl rfl (op_move rfl rfl ⟨rfl, rfl⟩) ?_
        refine DOps.st 19 rfl rfl (op_index rfl te_58 rfl (.seq _ _) rfl rfl (by assumption) ⟨rfl, rfl⟩) ?_
        first | (refine DOps.st 20 rfl rfl (op_fieldAddr_m rfl tf_74_0 rfl ⟨rfl, rfl⟩) ?_) | (refine DOps.st 20 rfl rfl (op_fieldAddr_c rfl tf_74_0 rfl rfl ⟨rfl, rfl⟩) ?_)
        first | (refine DOps.st 21 rfl rfl (op_load_m1 (i := 0) rfl ta_9 rfl rfl rfl ⟨rfl, rfl⟩) ?_) | (refine DOps.st 21 rfl rfl (op_load_m1 (i := 1) rfl ta_9 rfl rfl rfl ⟨rfl, rfl⟩) ?_) | (refine DOps.st 21 rfl rfl (op_load_m1 (i := 2) rfl ta_9 rfl rfl rfl ⟨rfl, rfl⟩) ?_) | (refine DOps.st 21 rfl rfl (op_load_m1 (i := 3) rfl ta_9 rfl rfl rfl ⟨rfl, rfl⟩) ?_) | (refine DOps.st 21 rfl rfl (op_load_m1 (i := 4) rfl ta_9 rfl rfl rfl ⟨rfl, rfl⟩) ?_) | (refine DOps.st 21 rfl rfl (op_load_m1 (i := 5) rfl ta_9 rfl rfl rfl ⟨rfl, rfl⟩) ?_) | (refine DOps.st 21 rfl rfl (op_load_c1 rfl ta_9 rfl rfl ⟨rfl, rfl⟩) ?_)
        refine DOps.st 22 rfl rfl (op_move rfl rfl ⟨rfl, rfl⟩) ?_
        refine DOps.st 23 rfl rfl (op_move rfl rfl ⟨rfl, rfl⟩) ?_
        refine DOps.st 24 rfl rfl (op_index rfl te_58 rfl (.seq _ _) rfl rfl (by assumption) ⟨rfl, rfl⟩) ?_
        first | (refine DOps.st 25 rfl rfl (op_fieldAddr_m rfl tf_74_0 rfl ⟨rfl, rfl⟩) ?_) | (refine DOps.st 25 rfl rfl (op_fieldAddr_c rfl tf_74_0 rfl rfl ⟨rfl, rfl⟩) ?_)
        first | (refine DOps.st 26 rfl rfl (op_load_m1 (i := 0) rfl ta_9 rfl rfl rfl ⟨rfl, rfl⟩) ?_) | (refine DOps.st 26 rfl rfl (op_load_m1 (i := 1) rfl ta_9 rfl rfl rfl ⟨rfl, rfl⟩) ?_) | (refine DOps.st 26 rfl rfl (op_load_m1 (i := 2) rfl ta_9 rfl rfl rfl ⟨rfl, rfl⟩) ?_) | (refine DOps.st 26 rfl rfl (op_load_m1 (i := 3) rfl ta_9 rfl rfl rfl ⟨rfl, rfl⟩) ?_) | (refine DOps.st 26 rfl rfl (op_load_m1 (i := 4) rfl ta_9 rfl rfl rfl ⟨rfl, rfl⟩) ?_) | (refine DOps.st 26 rfl rfl (op_load_m1 (i := 5) rfl ta_9 rfl rfl rfl ⟨rfl, rfl⟩) ?_) | (refine DOps.st 26 rfl rfl (op_load_c1 rfl ta_9 rfl rfl ⟨rfl, rfl⟩) ?_)
        refine DOps.cm 27 rfl rfl (fun _ q => op_sneq rfl rfl rfl q) ?_; intro c27 h27
        refine DOps.st 28 rfl rfl (op_move rfl rfl ⟨rfl, rfl⟩) ?_
        rcases bool_split h27 with ⟨rfl, g27⟩ | ⟨rfl, g27⟩
        · skip
          refine DOps.gt 29 rfl rfl rfl rfl (op_move rfl rfl ⟨rfl, rfl⟩) ?_
          refine DOps.gt 30 rfl rfl rfl rfl (op_move rfl rfl ⟨rfl, rfl⟩) ?_
          refine DOps.gt 31 rfl rfl rfl rfl (op_index rfl te_58 rfl (.seq _ _) rfl rfl (by assumption) ⟨rfl, rfl⟩) ?_
          first | (refine DOps.gt 32 rfl rfl rfl rfl (op_fieldAddr_m rfl tf_74_1 rfl ⟨rfl, rfl⟩) ?_) | (refine DOps.gt 32 rfl rfl rfl rfl (op_fieldAddr_c rfl tf_74_1 rfl rfl ⟨rfl, rfl⟩) ?_)
          first | (refine DOps.gt 33 rfl rfl rfl rfl (op_load_m (cs' := [_, _, _, _, _, _, _, _, _, _, _]) (i := 0) rfl ta_60 rfl rfl rfl rfl ⟨rfl, rfl⟩) ?_) | (refine DOps.gt 33 rfl rfl rfl rfl (op_load_m (cs' := [_, _, _, _, _, _, _, _, _, _, _]) (i := 1) rfl ta_60 rfl rfl rfl rfl ⟨rfl, rfl⟩) ?_) | (refine DOps.gt 33 rfl rfl rfl rfl (op_load_m (cs' := [_, _, _, _, _, _, _, _, _, _, _]) (i := 2) rfl ta_60 rfl rfl rfl rfl ⟨rfl, rfl⟩) ?_) | (refine DOps.gt 33 rfl rfl rfl rfl (op_load_m (cs' := [_, _, _, _, _, _, _, _, _, _, _]) (i := 3) rfl ta_60 rfl rfl rfl rfl ⟨rfl, rfl⟩) ?_) | (refine DOps.gt 33 rfl rfl rfl rfl (op_load_m (cs' := [_, _, _, _, _, _, _, _, _, _, _]) (i := 4) rfl ta_60 rfl rfl rfl rfl ⟨rfl, rfl⟩) ?_) | (refine DOps.gt 33 rfl rfl rfl rfl (op_load_m (cs' := [_, _, _, _, _, _, _, _, _, _, _]) (i := 5) rfl ta_60 rfl rfl rfl rfl ⟨rfl, rfl⟩) ?_) | (refine DOps.gt 33 rfl rfl rfl rfl (op_load_c (cs' := [_, _, _, _, _, _, _, _, _, _, _]) rfl ta_60 rfl rfl rfl ⟨rfl, rfl⟩) ?_)
          refine DOps.gt 34 rfl rfl rfl rfl (op_move rfl rfl ⟨rfl, rfl⟩) ?_
          refine DOps.gt 35 rfl rfl rfl rfl (op_move rfl rfl ⟨rfl, rfl⟩) ?_
          refine DOps.gt 36 rfl rfl rfl rfl (op_index rfl te_58 rfl (.seq _ _) rfl rfl (by assumption) ⟨rfl, rfl⟩) ?_
          first | (refine DOps.gt 37 rfl rfl rfl rfl (op_fieldAddr_m rfl tf_74_1 rfl ⟨rfl, rfl⟩) ?_) | (refine DOps.gt 37 rfl rfl rfl rfl (op_fieldAddr_c rfl tf_74_1 rfl rfl ⟨rfl, rfl⟩) ?_)
          first | (refine DOps.gt 38 rfl rfl rfl rfl (op_load_m (cs' := [_, _, _, _, _, _, _, _, _, _, _]) (i := 0) rfl ta_60 rfl rfl rfl rfl ⟨rfl, rfl⟩) ?_) | (refine DOps.gt 38 rfl rfl rfl rfl (op_load_m (cs' := [_, _, _, _, _, _, _, _, _, _, _]) (i := 1) rfl ta_60 rfl rfl rfl rfl ⟨rfl, rfl⟩) ?_) | (refine DOps.gt 38 rfl rfl rfl rfl (op_load_m (cs' := [_, _, _, _, _, _, _, _, _, _, _]) (i := 2) rfl ta_60 rfl rfl rfl rfl ⟨rfl, rfl⟩) ?_) | (refine DOps.gt 38 rfl rfl rfl rfl (op_load_m (cs' := [_, _, _, _, _, _, _, _, _, _, _]) (i := 3) rfl ta_60 rfl rfl rfl rfl ⟨rfl, rfl⟩) ?_) | (refine DOps.gt 38 rfl rfl rfl rfl (op_load_m (cs' := [_, _, _, _, _, _, _, _, _, _, _]) (i := 4) rfl ta_60 rfl rfl rfl rfl ⟨rfl, rfl⟩) ?_) | (refine DOps.gt 38 rfl rfl rfl rfl (op_load_m (cs' := [_, _, _, _, _, _, _, _, _, _, _]) (i := 5) rfl ta_60 rfl rfl rfl rfl ⟨rfl, rfl⟩) ?_) | (refine DOps.gt 38 rfl rfl rfl rfl (op_load_c (cs' := [_, _, _, _, _, _, _, _, _, _, _]) rfl ta_60 rfl rfl rfl ⟨rfl, rfl⟩) ?_)
          refine DOps.gtc 39 rfl rfl rfl rfl (fun _ q => op_callb (xs := [.tmp 33, .tmp 38]) rfl rfl (HS) (by first | exact Les.refl _ | (repeat' (first | exact Les.refl _ | refine Les.cons ?_ ?_ | exact Le.refl _ | exact Le.own _ _ _ | exact Le.nil _ | refine Le.agg ?_))) q) ?_; intro c39 h39
          refine DOps.gtc 40 rfl rfl rfl rfl (fun _ q => op_notc rfl rfl q) ?_; intro c40 h40
          try replace h40 := nott h40 h39
          refine DOps.st 41 rfl rfl (op_pick rfl rfl rfl ⟨rfl, rfl⟩) ?_
          show BoolQ _ _ _ _ _ _
          refine BoolQ.mk rfl ?_ (by repeat' (first | exact SLe.wo _ _ | exact SLe.refl _ | refine SLe.fresh rfl ?_)) (by first | exact MLe.none _ | exact MLe.refl _ | (repeat' (first | exact MLe.nil | exact MLe.refl _ | refine MLe.cons _ ?_ | refine MLe.drop _ ?_)))
          simp_all
        · skip
          refine DOps.gf 29 rfl rfl rfl rfl ?_
          refine DOps.gf 30 rfl rfl rfl rfl ?_
          refine DOps.gf 31 rfl rfl rfl rfl ?_
          refine DOps.gf 32 rfl rfl rfl rfl ?_
          refine DOps.gf 33 rfl rfl rfl rfl ?_
          refine DOps.gf 34 rfl rfl rfl rfl ?_
          refine DOps.gf 35 rfl rfl rfl rfl ?_
          refine DOps.gf 36 rfl rfl rfl rfl ?_
          refine DOps.gf 37 rfl rfl rfl rfl ?_
          refine DOps.gf 38 rfl rfl rfl rfl ?_
          refine DOps.gf 39 rfl rfl rfl rfl ?_
          refine DOps.gf 40 rfl rfl rfl rfl ?_
          refine DOps.st 41 rfl rfl (op_pick rfl rfl rfl ⟨rfl, rfl⟩) ?_
          show BoolQ _ _ _ _ _ _
          refine BoolQ.mk rfl ?_ (by repeat' (first | exact SLe.wo _ _ | exact SLe.refl _ | refine SLe.fresh rfl ?_)) (by first | exact MLe.none _ | exact MLe.refl _ | (repeat' (first | exact MLe.nil | exact MLe.refl _ | refine MLe.cons _ ?_ | refine MLe.drop _ ?_)))
          simp_all
      intro c41 h41
      refine go_code ?_
      rcases bool_split h41 with ⟨rfl, g41⟩ | ⟨rfl, g41⟩
      · refine c_cond_f rfl ?_
        refine c_skip ?_
        refine go_blk ?_
        refine go_code ?_
        refine c_region ?_
        refine AOps.st 15 rfl rfl rfl (op_move rfl rfl ?_)
        refine AOps.st 16 rfl rfl rfl (op_add rfl rfl rfl (IntWalk.i64_in _ (by omega)) ?_)
        refine AOps.st 5 rfl rfl rfl (op_assign rfl rfl ?_)
        refine AOps.nil ?_
        refine go_lp ?_
        exact ⟨i + 1, ⟨by omega, heq (Classical.not_not.1 g41)⟩, by simp; omega, (by repeat' (first | exact SLe.nil _ | refine SLe.cons rfl ?_ ?_ | exact Le.refl _ | exact Le.own _ _ _ | exact Le.nil _)), (by first | exact MLe.none _ | exact MLe.refl _ | (repeat' (first | exact MLe.nil | exact MLe.refl _ | refine MLe.cons _ ?_ | refine MLe.drop _ ?_)))⟩
      · refine c_cond_t rfl ?_
        refine c_seq ?_
        refine c_region ?_
        refine AOps.st 4 rfl rfl rfl (op_assign rfl rfl ?_)
        refine AOps.nil ?_
        refine go_code ?_
        refine c_ret ?_
        exact out_tmp rfl rfl (Le.refl _) (by first | exact MLe.none _ | exact MLe.refl _ | (repeat' (first | exact MLe.nil | exact MLe.refl _ | refine MLe.cons _ ?_ | refine MLe.drop _ ?_))) ⟨⟨_, iff_f (hne g41), rfl⟩, rfl⟩
  · refine c_cond_t rfl ?_
    refine c_seq ?_
    refine c_region ?_
    refine AOps.st 4 rfl rfl rfl (op_assign rfl rfl ?_)
    refine AOps.nil ?_
    refine go_code ?_
    refine c_ret ?_
    exact out_tmp rfl rfl (Le.refl _) (by first | exact MLe.none _ | exact MLe.refl _ | (repeat' (first | exact MLe.nil | exact MLe.refl _ | refine MLe.cons _ ?_ | refine MLe.drop _ ?_))) ⟨⟨_, iff_f (map_len_ne _ (by omega)), rfl⟩, rfl⟩
set_option maxHeartbeats 4000000 in
set_option maxRecDepth 100000 in
theorem rSame_c (a : Ex) : ∀ b : Ex, BCall Try.prog 46 [.agg a.cells, .agg b.cells] (a.bare = b.bare) := by
  obtain ⟨k1, s1, n1, ⟨tk1, ts1, tn1, tks1⟩, ks1, al1, bb1, p1⟩ := a
  rintro ⟨k2, s2, n2, ⟨tk2, ts2, tn2, tks2⟩, ks2, al2, bb2, p2⟩
  have HK : ∀ x ∈ ks1, ∀ y : Ex, BCall Try.prog 46 [.agg x.cells, .agg y.cells] (x.bare = y.bare) := fun x hx y => rSame_c x y
  have HA : ∀ x ∈ al1, ∀ y : Ex, BCall Try.prog 46 [.agg x.e.cells, .agg y.cells] (x.e.bare = y.bare) := fun x hx y => rSame_c x.e y
  have HB := SameBinds_of bb1 bb2 (fun x hx y => rSame_c x.e y)
  have HT := SameType_c ⟨tk1, ts1, tn1, tks1⟩ ⟨tk2, ts2, tn2, tks2⟩
  have hk1 := Ex.cellss_len ks1
  have hk2 := Ex.cellss_len ks2
  have ha1 := Al.cellss_len al1
  have ha2 := Al.cellss_len al2
  rw [Ex.bare_iff]
  generalize bb1.map Bi.bare = mb1 at *
  generalize bb2.map Bi.bare = mb2 at *
  refine ACall.enter Try.func46 rfl (by kernel_rfl) rfl (Nat.le_of_ble_eq_true rfl) ?_
  refine c_start ?_
  refine c_lena (t := 0) (j := 7) rfl rfl (.seq _ _) (fun hmax => ?_)
  refine c_lena (t := 0) (j := 8) rfl rfl (.seq _ _) (fun hmax2 => ?_)
  refine c_seq ?_
  refine c_region ?_
  refine AOps.st 2 rfl rfl rfl (op_boxc (cs' := [_, _, _, _, _, _, _, _, _, _, _]) rfl rfl rfl rfl ?_)
  refine AOps.st 3 rfl rfl rfl (op_boxc (cs' := [_, _, _, _, _, _, _, _, _, _, _]) rfl rfl rfl rfl ?_)
  refine AOps.st 4 rfl rfl rfl (op_assign rfl rfl ?_)
  refine AOps.nil ?_
  refine go_code ?_
  refine c_seq ?_
  refine c_seq ?_
  refine c_bool 59 (¬ (k1 = k2 ∧ s1 = s2 ∧ n1 = n2 ∧ Ty.mk tk1 ts1 tn1 tks1 = Ty.mk tk2 ts2 tn2 tks2 ∧ ks1.length = ks2.length ∧ al1.length = al2.length ∧ mb1 = mb2)) ?_ _ _ rfl ?_
  · skip
    refine AOps.st 7 rfl rfl rfl (op_fieldAddr_c rfl tf_60_0 rfl rfl ?_)
    refine AOps.st 8 rfl rfl rfl (op_load_c1 rfl ta_3 rfl rfl ?_)
    refine AOps.st 9 rfl rfl rfl (op_fieldAddr_c rfl tf_60_0 rfl rfl ?_)
    refine AOps.st 10 rfl rfl rfl (op_load_c1 rfl ta_3 rfl rfl ?_)
    refine AOps.st 11 rfl rfl rfl (op_neq rfl rfl rfl ?_); intro c11 h11
    refine AOps.st 12 rfl rfl rfl (op_move rfl rfl ?_)
    rcases bool_split h11 with ⟨rfl, g11⟩ | ⟨rfl, g11⟩
    · skip
      refine AOps.gt 13 rfl rfl rfl rfl rfl (op_fieldAddr_c rfl tf_60_1 rfl rfl ?_)
      refine AOps.gt 14 rfl rfl rfl rfl rfl (op_load_c1 rfl ta_9 rfl rfl ?_)
      refine AOps.gt 15 rfl rfl rfl rfl rfl (op_fieldAddr_c rfl tf_60_1 rfl rfl ?_)
      refine AOps.gt 16 rfl rfl rfl rfl rfl (op_load_c1 rfl ta_9 rfl rfl ?_)
      refine AOps.gt 17 rfl rfl rfl rfl rfl (op_sneq rfl rfl rfl ?_); intro c17 h17
      refine AOps.st 18 rfl rfl rfl (op_pick rfl rfl rfl ?_)
      refine AOps.st 19 rfl rfl rfl (op_move rfl rfl ?_)
      rcases bool_split h17 with ⟨rfl, g17⟩ | ⟨rfl, g17⟩
      · skip
        refine AOps.gt 20 rfl rfl rfl rfl rfl (op_fieldAddr_c rfl tf_60_2 rfl rfl ?_)
        refine AOps.gt 21 rfl rfl rfl rfl rfl (op_load_c1 rfl ta_2 rfl rfl ?_)
        refine AOps.gt 22 rfl rfl rfl rfl rfl (op_fieldAddr_c rfl tf_60_2 rfl rfl ?_)
        refine AOps.gt 23 rfl rfl rfl rfl rfl (op_load_c1 rfl ta_2 rfl rfl ?_)
        refine AOps.gt 24 rfl rfl rfl rfl rfl (op_neq rfl rfl rfl ?_); intro c24 h24
        refine AOps.st 25 rfl rfl rfl (op_pick rfl rfl rfl ?_)
        refine AOps.st 26 rfl rfl rfl (op_move rfl rfl ?_)
        rcases bool_split h24 with ⟨rfl, g24⟩ | ⟨rfl, g24⟩
        · skip
          refine AOps.gt 27 rfl rfl rfl rfl rfl (op_fieldAddr_c rfl tf_60_3 rfl rfl ?_)
          refine AOps.gt 28 rfl rfl rfl rfl rfl (op_load_c (cs' := [_, _, _, _]) rfl ta_24 rfl rfl rfl ?_)
          refine AOps.gt 29 rfl rfl rfl rfl rfl (op_fieldAddr_c rfl tf_60_3 rfl rfl ?_)
          refine AOps.gt 30 rfl rfl rfl rfl rfl (op_load_c (cs' := [_, _, _, _]) rfl ta_24 rfl rfl rfl ?_)
          refine AOps.gt 31 rfl rfl rfl rfl rfl (op_callb (xs := [.tmp 28, .tmp 30]) rfl rfl (HT) (by first | exact Les.refl _ | (repeat' (first | exact Les.refl _ | refine Les.cons ?_ ?_ | exact Le.refl _ | exact Le.own _ _ _ | exact Le.nil _ | refine Le.agg ?_))) ?_); intro c31 h31
          refine AOps.gt 32 rfl rfl rfl rfl rfl (op_notc rfl rfl ?_); intro c32 h32
          try replace h32 := nott h32 h31
          refine AOps.st 33 rfl rfl rfl (op_pick rfl rfl rfl ?_)
          refine AOps.st 34 rfl rfl rfl (op_move rfl rfl ?_)
          rcases bool_split h32 with ⟨rfl, g32⟩ | ⟨rfl, g32⟩
          · skip
            refine AOps.gt 35 rfl rfl rfl rfl rfl (op_fieldAddr_c rfl tf_60_4 rfl rfl ?_)
            refine AOps.gt 36 rfl rfl rfl rfl rfl (op_load_c1 rfl ta_56 rfl rfl ?_)
            refine AOps.gt 37 rfl rfl rfl rfl rfl (op_len rfl tu_56 rfl (.seq _ _) (fun n37 => ?_))
            refine AOps.gt 38 rfl rfl rfl rfl rfl (op_fieldAddr_c rfl tf_60_4 rfl rfl ?_)
            refine AOps.gt 39 rfl rfl rfl rfl rfl (op_load_c1 rfl ta_56 rfl rfl ?_)
            refine AOps.gt 40 rfl rfl rfl rfl rfl (op_len rfl tu_56 rfl (.seq _ _) (fun n40 => ?_))
            refine AOps.gt 41 rfl rfl rfl rfl rfl (op_neq rfl rfl rfl ?_); intro c41 h41
            refine AOps.st 42 rfl rfl rfl (op_pick rfl rfl rfl ?_)
            refine AOps.st 43 rfl rfl rfl (op_move rfl rfl ?_)
            rcases bool_split h41 with ⟨rfl, g41⟩ | ⟨rfl, g41⟩
            · skip
              refine AOps.gt 44 rfl rfl rfl rfl rfl (op_fieldAddr_c rfl tf_60_5 rfl rfl ?_)
              refine AOps.gt 45 rfl rfl rfl rfl rfl (op_load_c1 rfl ta_57 rfl rfl ?_)
              refine AOps.gt 46 rfl rfl rfl rfl rfl (op_len rfl tu_57 rfl (.seq _ _) (fun n46 => ?_))
              refine AOps.gt 47 rfl rfl rfl rfl rfl (op_fieldAddr_c rfl tf_60_5 rfl rfl ?_)
              refine AOps.gt 48 rfl rfl rfl rfl rfl (op_load_c1 rfl ta_57 rfl rfl ?_)
              refine AOps.gt 49 rfl rfl rfl rfl rfl (op_len rfl tu_57 rfl (.seq _ _) (fun n49 => ?_))
              refine AOps.gt 50 rfl rfl rfl rfl rfl (op_neq rfl rfl rfl ?_); intro c50 h50
              refine AOps.st 51 rfl rfl rfl (op_pick rfl rfl rfl ?_)
              refine AOps.st 52 rfl rfl rfl (op_move rfl rfl ?_)
              rcases bool_split h50 with ⟨rfl, g50⟩ | ⟨rfl, g50⟩
              · skip
                refine AOps.gt 53 rfl rfl rfl rfl rfl (op_fieldAddr_c rfl tf_60_6 rfl rfl ?_)
                refine AOps.gt 54 rfl rfl rfl rfl rfl (op_load_c1 rfl ta_58 rfl rfl ?_)
                refine AOps.gt 55 rfl rfl rfl rfl rfl (op_fieldAddr_c rfl tf_60_6 rfl rfl ?_)
                refine AOps.gt 56 rfl rfl rfl rfl rfl (op_load_c1 rfl ta_58 rfl rfl ?_)
                refine AOps.gt 57 rfl rfl rfl rfl rfl (op_callb (xs := [.tmp 54, .tmp 56]) rfl rfl (HB) (by first | exact Les.refl _ | (repeat' (first | exact Les.refl _ | refine Les.cons ?_ ?_ | exact Le.refl _ | exact Le.own _ _ _ | exact Le.nil _ | refine Le.agg ?_))) ?_); intro c57 h57
                refine AOps.gt 58 rfl rfl rfl rfl rfl (op_notc rfl rfl ?_); intro c58 h58
                try replace h58 := nott h58 h57
                refine AOps.st 59 rfl rfl rfl (op_pick rfl rfl rfl ?_)
                refine AOps.nil ?_
                refine BoolQ.mk rfl ?_ (by repeat' (first | exact SLe.wo _ _ | exact SLe.refl _ | refine SLe.fresh rfl ?_)) (by first | exact MLe.none _ | exact MLe.refl _ | (repeat' (first | exact MLe.nil | exact MLe.refl _ | refine MLe.cons _ ?_ | refine MLe.drop _ ?_)))
                first | (simp_all; done) | ((have w1 : ks1.length = ks2.length := (by omega)); (have w2 : al1.length = al2.length := (by omega)); simp_all; done)
              · skip
                refine AOps.gf 53 rfl rfl rfl rfl rfl ?_
                refine AOps.gf 54 rfl rfl rfl rfl rfl ?_
                refine AOps.gf 55 rfl rfl rfl rfl rfl ?_
                refine AOps.gf 56 rfl rfl rfl rfl rfl ?_
                refine AOps.gf 57 rfl rfl rfl rfl rfl ?_
                refine AOps.gf 58 rfl rfl rfl rfl rfl ?_
                refine AOps.st 59 rfl rfl rfl (op_pick rfl rfl rfl ?_)
                refine AOps.nil ?_
                refine BoolQ.mk rfl ?_ (by repeat' (first | exact SLe.wo _ _ | exact SLe.refl _ | refine SLe.fresh rfl ?_)) (by first | exact MLe.none _ | exact MLe.refl _ | (repeat' (first | exact MLe.nil | exact MLe.refl _ | refine MLe.cons _ ?_ | refine MLe.drop _ ?_)))
                first | (simp_all; done) | ((have w1 : ks1.length = ks2.length := (by omega)); (have w2 : al1.length = al2.length := (by omega)); simp_all; done) | (simp_all; omega)
            · skip
              refine AOps.gf 44 rfl rfl rfl rfl rfl ?_
              refine AOps.gf 45 rfl rfl rfl rfl rfl ?_
              refine AOps.gf 46 rfl rfl rfl rfl rfl ?_
              refine AOps.gf 47 rfl rfl rfl rfl rfl ?_
              refine AOps.gf 48 rfl rfl rfl rfl rfl ?_
              refine AOps.gf 49 rfl rfl rfl rfl rfl ?_
              refine AOps.gf 50 rfl rfl rfl rfl rfl ?_
              refine AOps.st 51 rfl rfl rfl (op_pick rfl rfl rfl ?_)
              refine AOps.st 52 rfl rfl rfl (op_move rfl rfl ?_)
              refine AOps.gf 53 rfl rfl rfl rfl rfl ?_
              refine AOps.gf 54 rfl rfl rfl rfl rfl ?_
              refine AOps.gf 55 rfl rfl rfl rfl rfl ?_
              refine AOps.gf 56 rfl rfl rfl rfl rfl ?_
              refine AOps.gf 57 rfl rfl rfl rfl rfl ?_
              refine AOps.gf 58 rfl rfl rfl rfl rfl ?_
              refine AOps.st 59 rfl rfl rfl (op_pick rfl rfl rfl ?_)
              refine AOps.nil ?_
              refine BoolQ.mk rfl ?_ (by repeat' (first | exact SLe.wo _ _ | exact SLe.refl _ | refine SLe.fresh rfl ?_)) (by first | exact MLe.none _ | exact MLe.refl _ | (repeat' (first | exact MLe.nil | exact MLe.refl _ | refine MLe.cons _ ?_ | refine MLe.drop _ ?_)))
              first | (simp_all; done) | ((have w1 : ks1.length = ks2.length := (by omega)); (have w2 : al1.length = al2.length := (by omega)); simp_all; done) | (simp_all; omega)
          · skip
            refine AOps.gf 35 rfl rfl rfl rfl rfl ?_
            refine AOps.gf 36 rfl rfl rfl rfl rfl ?_
            refine AOps.gf 37 rfl rfl rfl rfl rfl ?_
            refine AOps.gf 38 rfl rfl rfl rfl rfl ?_
            refine AOps.gf 39 rfl rfl rfl rfl rfl ?_
            refine AOps.gf 40 rfl rfl rfl rfl rfl ?_
            refine AOps.gf 41 rfl rfl rfl rfl rfl ?_
            refine AOps.st 42 rfl rfl rfl (op_pick rfl rfl rfl ?_)
            refine AOps.st 43 rfl rfl rfl (op_move rfl rfl ?_)
            refine AOps.gf 44 rfl rfl rfl rfl rfl ?_
            refine AOps.gf 45 rfl rfl rfl rfl rfl ?_
            refine AOps.gf 46 rfl rfl rfl rfl rfl ?_
            refine AOps.gf 47 rfl rfl rfl rfl rfl ?_
            refine AOps.gf 48 rfl rfl rfl rfl rfl ?_
            refine AOps.gf 49 rfl rfl rfl rfl rfl ?_
            refine AOps.gf 50 rfl rfl rfl rfl rfl ?_
            refine AOps.st 51 rfl rfl rfl (op_pick rfl rfl rfl ?_)
            refine AOps.st 52 rfl rfl rfl (op_move rfl rfl ?_)
            refine AOps.gf 53 rfl rfl rfl rfl rfl ?_
            refine AOps.gf 54 rfl rfl rfl rfl rfl ?_
            refine AOps.gf 55 rfl rfl rfl rfl rfl ?_
            refine AOps.gf 56 rfl rfl rfl rfl rfl ?_
            refine AOps.gf 57 rfl rfl rfl rfl rfl ?_
            refine AOps.gf 58 rfl rfl rfl rfl rfl ?_
            refine AOps.st 59 rfl rfl rfl (op_pick rfl rfl rfl ?_)
            refine AOps.nil ?_
            refine BoolQ.mk rfl ?_ (by repeat' (first | exact SLe.wo _ _ | exact SLe.refl _ | refine SLe.fresh rfl ?_)) (by first | exact MLe.none _ | exact MLe.refl _ | (repeat' (first | exact MLe.nil | exact MLe.refl _ | refine MLe.cons _ ?_ | refine MLe.drop _ ?_)))
            simp_all; done
        · skip
          refine AOps.gf 27 rfl rfl rfl rfl rfl ?_
          refine AOps.gf 28 rfl rfl rfl rfl rfl ?_
          refine AOps.gf 29 rfl rfl rfl rfl rfl ?_
          refine AOps.gf 30 rfl rfl rfl rfl rfl ?_
          refine AOps.gf 31 rfl rfl rfl rfl rfl ?_
          refine AOps.gf 32 rfl rfl rfl rfl rfl ?_
          refine AOps.st 33 rfl rfl rfl (op_pick rfl rfl rfl ?_)
          refine AOps.st 34 rfl rfl rfl (op_move rfl rfl ?_)
          refine AOps.gf 35 rfl rfl rfl rfl rfl ?_
          refine AOps.gf 36 rfl rfl rfl rfl rfl ?_
          refine AOps.gf 37 rfl rfl rfl rfl rfl ?_
          refine AOps.gf 38 rfl rfl rfl rfl rfl ?_
          refine AOps.gf 39 rfl rfl rfl rfl rfl ?_
          refine AOps.gf 40 rfl rfl rfl rfl rfl ?_
          refine AOps.gf 41 rfl rfl rfl rfl rfl ?_
          refine AOps.st 42 rfl rfl rfl (op_pick rfl rfl rfl ?_)
          refine AOps.st 43 rfl rfl rfl (op_move rfl rfl ?_)
          refine AOps.gf 44 rfl rfl rfl rfl rfl ?_
          refine AOps.gf 45 rfl rfl rfl rfl rfl ?_
          refine AOps.gf 46 rfl rfl rfl rfl rfl ?_
          refine AOps.gf 47 rfl rfl rfl rfl rfl ?_
          refine AOps.gf 48 rfl rfl rfl rfl rfl ?_
          refine AOps.gf 49 rfl rfl rfl rfl rfl ?_
          refine AOps.gf 50 rfl rfl rfl rfl rfl ?_
          refine AOps.st 51 rfl rfl rfl (op_pick rfl rfl rfl ?_)
          refine AOps.st 52 rfl rfl rfl (op_move rfl rfl ?_)
          refine AOps.gf 53 rfl rfl rfl rfl rfl ?_
          refine AOps.gf 54 rfl rfl rfl rfl rfl ?_
          refine AOps.gf 55 rfl rfl rfl rfl rfl ?_
          refine AOps.gf 56 rfl rfl rfl rfl rfl ?_
          refine AOps.gf 57 rfl rfl rfl rfl rfl ?_
          refine AOps.gf 58 rfl rfl rfl rfl rfl ?_
          refine AOps.st 59 rfl rfl rfl (op_pick rfl rfl rfl ?_)
          refine AOps.nil ?_
          refine BoolQ.mk rfl ?_ (by repeat' (first | exact SLe.wo _ _ | exact SLe.refl _ | refine SLe.fresh rfl ?_)) (by first | exact MLe.none _ | exact MLe.refl _ | (repeat' (first | exact MLe.nil | exact MLe.refl _ | refine MLe.cons _ ?_ | refine MLe.drop _ ?_)))
          simp_all; done
      · skip
        refine AOps.gf 20 rfl rfl rfl rfl rfl ?_
        refine AOps.gf 21 rfl rfl rfl rfl rfl ?_
        refine AOps.gf 22 rfl rfl rfl rfl rfl ?_
        refine AOps.gf 23 rfl rfl rfl rfl rfl ?_
        refine AOps.gf 24 rfl rfl rfl rfl rfl ?_
        refine AOps.st 25 rfl rfl rfl (op_pick rfl rfl rfl ?_)
        refine AOps.st 26 rfl rfl rfl (op_move rfl rfl ?_)
        refine AOps.gf 27 rfl rfl rfl rfl rfl ?_
        refine AOps.gf 28 rfl rfl rfl rfl rfl ?_
        refine AOps.gf 29 rfl rfl rfl rfl rfl ?_
        refine AOps.gf 30 rfl rfl rfl rfl rfl ?_
        refine AOps.gf 31 rfl rfl rfl rfl rfl ?_
        refine AOps.gf 32 rfl rfl rfl rfl rfl ?_
        refine AOps.st 33 rfl rfl rfl (op_pick rfl rfl rfl ?_)
        refine AOps.st 34 rfl rfl rfl (op_move rfl rfl ?_)
        refine AOps.gf 35 rfl rfl rfl rfl rfl ?_
        refine AOps.gf 36 rfl rfl rfl rfl rfl ?_
        refine AOps.gf 37 rfl rfl rfl rfl rfl ?_
        refine AOps.gf 38 rfl rfl rfl rfl rfl ?_
        refine AOps.gf 39 rfl rfl rfl rfl rfl ?_
        refine AOps.gf 40 rfl rfl rfl rfl rfl ?_
        refine AOps.gf 41 rfl rfl rfl rfl rfl ?_
        refine AOps.st 42 rfl rfl rfl (op_pick rfl rfl rfl ?_)
        refine AOps.st 43 rfl rfl rfl (op_move rfl rfl ?_)
        refine AOps.gf 44 rfl rfl rfl rfl rfl ?_
        refine AOps.gf 45 rfl rfl rfl rfl rfl ?_
        refine AOps.gf 46 rfl rfl rfl rfl rfl ?_
        refine AOps.gf 47 rfl rfl rfl rfl rfl ?_
        refine AOps.gf 48 rfl rfl rfl rfl rfl ?_
        refine AOps.gf 49 rfl rfl rfl rfl rfl ?_
        refine AOps.gf 50 rfl rfl rfl rfl rfl ?_
        refine AOps.st 51 rfl rfl rfl (op_pick rfl rfl rfl ?_)
        refine AOps.st 52 rfl rfl rfl (op_move rfl rfl ?_)
        refine AOps.gf 53 rfl rfl rfl rfl rfl ?_
        refine AOps.gf 54 rfl rfl rfl rfl rfl ?_
        refine AOps.gf 55 rfl rfl rfl rfl rfl ?_
        refine AOps.gf 56 rfl rfl rfl rfl rfl ?_
        refine AOps.gf 57 rfl rfl rfl rfl rfl ?_
        refine AOps.gf 58 rfl rfl rfl rfl rfl ?_
        refine AOps.st 59 rfl rfl rfl (op_pick rfl rfl rfl ?_)
        refine AOps.nil ?_
        refine BoolQ.mk rfl ?_ (by repeat' (first | exact SLe.wo _ _ | exact SLe.refl _ | refine SLe.fresh rfl ?_)) (by first | exact MLe.none _ | exact MLe.refl _ | (repeat' (first | exact MLe.nil | exact MLe.refl _ | refine MLe.cons _ ?_ | refine MLe.drop _ ?_)))
        simp_all; done
    · skip
      refine AOps.gf 13 rfl rfl rfl rfl rfl ?_
      refine AOps.gf 14 rfl rfl rfl rfl rfl ?_
      refine AOps.gf 15 rfl rfl rfl rfl rfl ?_
      refine AOps.gf 16 rfl rfl rfl rfl rfl ?_
      refine AOps.gf 17 rfl rfl rfl rfl rfl ?_
      refine AOps.st 18 rfl rfl rfl (op_pick rfl rfl rfl ?_)
      refine AOps.st 19 rfl rfl rfl (op_move rfl rfl ?_)
      refine AOps.gf 20 rfl rfl rfl rfl rfl ?_
      refine AOps.gf 21 rfl rfl rfl rfl rfl ?_
      refine AOps.gf 22 rfl rfl rfl rfl rfl ?_
      refine AOps.gf 23 rfl rfl rfl rfl rfl ?_
      refine AOps.gf 24 rfl rfl rfl rfl rfl ?_
      refine AOps.st 25 rfl rfl rfl (op_pick rfl rfl rfl ?_)
      refine AOps.st 26 rfl rfl rfl (op_move rfl rfl ?_)
      refine AOps.gf 27 rfl rfl rfl rfl rfl ?_
      refine AOps.gf 28 rfl rfl rfl rfl rfl ?_
      refine AOps.gf 29 rfl rfl rfl rfl rfl ?_
      refine AOps.gf 30 rfl rfl rfl rfl rfl ?_
      refine AOps.gf 31 rfl rfl rfl rfl rfl ?_
      refine AOps.gf 32 rfl rfl rfl rfl rfl ?_
      refine AOps.st 33 rfl rfl rfl (op_pick rfl rfl rfl ?_)
      refine AOps.st 34 rfl rfl rfl (op_move rfl rfl ?_)
      refine AOps.gf 35 rfl rfl rfl rfl rfl ?_
      refine AOps.gf 36 rfl rfl rfl rfl rfl ?_
      refine AOps.gf 37 rfl rfl rfl rfl rfl ?_
      refine AOps.gf 38 rfl rfl rfl rfl rfl ?_
      refine AOps.gf 39 rfl rfl rfl rfl rfl ?_
      refine AOps.gf 40 rfl rfl rfl rfl rfl ?_
      refine AOps.gf 41 rfl rfl rfl rfl rfl ?_
      refine AOps.st 42 rfl rfl rfl (op_pick rfl rfl rfl ?_)
      refine AOps.st 43 rfl rfl rfl (op_move rfl rfl ?_)
      refine AOps.gf 44 rfl rfl rfl rfl rfl ?_
      refine AOps.gf 45 rfl rfl rfl rfl rfl ?_
      refine AOps.gf 46 rfl rfl rfl rfl rfl ?_
      refine AOps.gf 47 rfl rfl rfl rfl rfl ?_
      refine AOps.gf 48 rfl rfl rfl rfl rfl ?_
      refine AOps.gf 49 rfl rfl rfl rfl rfl ?_
      refine AOps.gf 50 rfl rfl rfl rfl rfl ?_
      refine AOps.st 51 rfl rfl rfl (op_pick rfl rfl rfl ?_)
      refine AOps.st 52 rfl rfl rfl (op_move rfl rfl ?_)
      refine AOps.gf 53 rfl rfl rfl rfl rfl ?_
      refine AOps.gf 54 rfl rfl rfl rfl rfl ?_
      refine AOps.gf 55 rfl rfl rfl rfl rfl ?_
      refine AOps.gf 56 rfl rfl rfl rfl rfl ?_
      refine AOps.gf 57 rfl rfl rfl rfl rfl ?_
      refine AOps.gf 58 rfl rfl rfl rfl rfl ?_
      refine AOps.st 59 rfl rfl rfl (op_pick rfl rfl rfl ?_)
      refine AOps.nil ?_
      refine BoolQ.mk rfl ?_ (by repeat' (first | exact SLe.wo _ _ | exact SLe.refl _ | refine SLe.fresh rfl ?_)) (by first | exact MLe.none _ | exact MLe.refl _ | (repeat' (first | exact MLe.nil | exact MLe.refl _ | refine MLe.cons _ ?_ | refine MLe.drop _ ?_)))
      simp_all; done
  intro c59 h59
  refine go_code ?_
  rcases bool_split h59 with ⟨rfl, g59⟩ | ⟨rfl, g59⟩
  · refine c_cond_f rfl ?_
    refine c_skip ?_
    refine go_code ?_
    refine c_seq ?_
    refine c_seq ?_
    refine c_region ?_
    refine AOps.st 5 rfl rfl rfl (op_assign rfl rfl ?_)
    refine AOps.nil ?_
    refine go_code ?_
    refine c_block ?_
    obtain ⟨e1, e2, e3, e4, e5, e6, e7⟩ := Classical.not_not.1 g59
    refine c_loop (σ := Nat) (fun zz => match zz with | i => [(2, .cptr (Ex.mk k1 s1 n1 ⟨tk1, ts1, tn1, tks1⟩ ks1 al1 bb1 p1).cells), (3, .cptr (Ex.mk k2 s2 n2 ⟨tk2, ts2, tn2, tks2⟩ ks2 al2 bb2 p2).cells), (5, .val (.int .i64 i))]) (fun zz => match zz with | i => []) (fun zz => match zz with | i => i ≤ ks1.length ∧ Upto (ks1.map Ex.bare) (ks2.map Ex.bare) i) (fun zz => match zz with | i => ks1.length - i) (0) ?_ ?_ ?_ ?_
    · exact ⟨by omega, Upto.zero _ _⟩
    · exact (by repeat' (first | exact SLe.nil _ | refine SLe.cons rfl ?_ ?_ | exact Le.refl _ | exact Le.own _ _ _ | exact Le.nil _))
    · exact (by first | exact MLe.none _ | exact MLe.refl _ | (repeat' (first | exact MLe.nil | exact MLe.refl _ | refine MLe.cons _ ?_ | refine MLe.drop _ ?_)))
    rintro i hI
    try dsimp only at hI ⊢
    obtain ⟨hi, hu⟩ := hI
    refine c_seq ?_
    refine c_seq ?_
    refine c_region ?_
    refine AOps.st 60 rfl rfl rfl (op_move rfl rfl ?_)
    refine AOps.st 61 rfl rfl rfl (op_fieldAddr_c rfl tf_60_4 rfl rfl ?_)
    refine AOps.st 62 rfl rfl rfl (op_load_c1 rfl ta_56 rfl rfl ?_)
    refine AOps.st 63 rfl rfl rfl (op_len rfl tu_56 rfl (.seq _ _) (fun n63 => ?_))
    refine AOps.st 64 rfl rfl rfl (op_lss rfl rfl rfl ?_); intro c64 h64
    refine AOps.nil ?_
    refine go_code ?_
    rcases bool_split h64 with ⟨rfl, g64⟩ | ⟨rfl, g64⟩
    · refine c_cond_f rfl ?_
      refine c_exit ?_
      refine x_code ?_
      refine x_lp ?_
      refine x_here ?_
      refine go_code ?_
      refine c_seq ?_
      refine c_seq ?_
      refine c_region ?_
      refine AOps.st 6 rfl rfl rfl (op_assign rfl rfl ?_)
      refine AOps.nil ?_
      refine go_code ?_
      refine c_block ?_
      have hks := hu.eq (by simpa using e5) (by simp; omega)
      refine c_loop (σ := Nat) (fun zz => match zz with | j => [(2, .cptr (Ex.mk k1 s1 n1 ⟨tk1, ts1, tn1, tks1⟩ ks1 al1 bb1 p1).cells), (3, .cptr (Ex.mk k2 s2 n2 ⟨tk2, ts2, tn2, tks2⟩ ks2 al2 bb2 p2).cells), (6, .val (.int .i64 j))]) (fun zz => match zz with | j => []) (fun zz => match zz with | j => j ≤ al1.length ∧ Upto (al1.map Al.bare) (al2.map Al.bare) j) (fun zz => match zz with | j => al1.length - j) (0) ?_ ?_ ?_ ?_
      · exact ⟨by omega, Upto.zero _ _⟩
      · exact (by repeat' (first | exact SLe.nil _ | refine SLe.cons rfl ?_ ?_ | exact Le.refl _ | exact Le.own _ _ _ | exact Le.nil _))
      · exact (by first | exact MLe.none _ | exact MLe.refl _ | (repeat' (first | exact MLe.nil | exact MLe.refl _ | refine MLe.cons _ ?_ | refine MLe.drop _ ?_)))
      rintro j hI
      try dsimp only at hI ⊢
      obtain ⟨hj, hv⟩ := hI
      refine c_seq ?_
      refine c_seq ?_
      refine c_region ?_
      refine AOps.st 79 rfl rfl rfl (op_move rfl rfl ?_)
      refine AOps.st 80 rfl rfl rfl (op_fieldAddr_c rfl tf_60_5 rfl rfl ?_)
      refine AOps.st 81 rfl rfl rfl (op_load_c1 rfl ta_57 rfl rfl ?_)
      refine AOps.st 82 rfl rfl rfl (op_len rfl tu_57 rfl (.seq _ _) (fun n82 => ?_))
      refine AOps.st 83 rfl rfl rfl (op_lss rfl rfl rfl ?_); intro c83 h83
      refine AOps.nil ?_
      refine go_code ?_
      rcases bool_split h83 with ⟨rfl, g83⟩ | ⟨rfl, g83⟩
      · refine c_cond_f rfl ?_
        refine c_exit ?_
        refine x_code ?_
        refine x_lp ?_
        refine x_here ?_
        refine go_code ?_
        refine c_seq ?_
        refine c_region ?_
        refine AOps.st 4 rfl rfl rfl (op_assign rfl rfl ?_)
        refine AOps.nil ?_
        refine go_code ?_
        refine c_ret ?_
        exact out_tmp rfl rfl (Le.refl _) (by first | exact MLe.none _ | exact MLe.refl _ | (repeat' (first | exact MLe.nil | exact MLe.refl _ | refine MLe.cons _ ?_ | refine MLe.drop _ ?_))) ⟨⟨_, iff_t ⟨e1, e2, e3, e4, hks, hv.eq (by simpa using e6) (by simp; omega), e7⟩, rfl⟩, rfl⟩
      · refine c_cond_t rfl ?_
        refine c_skip ?_
        refine go_code ?_
        refine c_seq ?_
        refine c_block ?_
        refine c_seq ?_
        obtain ⟨⟨⟨xqk, xqs, xqn, xqks, xqp⟩, ⟨xk, xs, xn, ⟨xtk, xts, xtn, xtks⟩, xks, xal, xbs, xp⟩⟩, hx⟩ := get_some (l := al1) (i := j) (by omega)
        obtain ⟨⟨⟨yqk, yqs, yqn, yqks, yqp⟩, ⟨yk, ys, yn, ⟨ytk, yts, ytn, ytks⟩, yks, yal, ybs, yp⟩⟩, hy⟩ := get_some (l := al2) (i := j) (by omega)
        have hcx := Al.cellss_get hx
        have hcy := Al.cellss_get hy
        have HS := HA _ (List.mem_of_getElem? hx) ⟨yk, ys, yn, ⟨ytk, yts, ytn, ytks⟩, yks, yal, ybs, yp⟩
        have HP := rSamePat_c ⟨xqk, xqs, xqn, xqks, xqp⟩ ⟨yqk, yqs, yqn, yqks, yqp⟩
        have hne := fun e => map_ne Al.bare hx hy e
        have heq := fun e => upto_map Al.bare hv hx hy e
        rw [Al.bare_iff] at hne heq
        simp only [Al.e] at HS
        generalize (Ex.mk xk xs xn ⟨xtk, xts, xtn, xtks⟩ xks xal xbs xp).bare = ex at *
        generalize (Ex.mk yk ys yn ⟨ytk, yts, ytn, ytks⟩ yks yal ybs yp).bare = ey at *
        generalize (Pa.mk xqk xqs xqn xqks xqp).bare = qx at *
        generalize (Pa.mk yqk yqs yqn yqks yqp).bare = qy at *
        refine c_boold 115 (¬ (qx = qy ∧ ex = ey)) tmix rfl ?_ _ _ rfl ?_
        · skip
          refine DOps.st 86 rfl rfl (op_fieldAddr_c rfl tf_60_5 rfl rfl ⟨rfl, rfl⟩) ?_
          refine DOps.st 87 rfl rfl (op_load_c1 rfl ta_57 rfl rfl ⟨rfl, rfl⟩) ?_
          refine DOps.st 88 rfl rfl (op_move rfl rfl ⟨rfl, rfl⟩) ?_
          refine DOps.st 89 rfl rfl (op_index rfl te_57 rfl (.seq _ _) rfl rfl (by assumption) ⟨rfl, rfl⟩) ?_
          first | (refine DOps.st 90 rfl rfl (op_fieldAddr_m rfl tf_70_0 rfl ⟨rfl, rfl⟩) ?_) | (refine DOps.st 90 rfl rfl (op_fieldAddr_c rfl tf_70_0 rfl rfl ⟨rfl, rfl⟩) ?_)
          first | (refine DOps.st 91 rfl rfl (op_load_m (cs' := [_, _, _, _, _]) (i := 0) rfl ta_68 rfl rfl rfl rfl ⟨rfl, rfl⟩) ?_) | (refine DOps.st 91 rfl rfl (op_load_m (cs' := [_, _, _, _, _]) (i := 1) rfl ta_68 rfl rfl rfl rfl ⟨rfl, rfl⟩) ?_) | (refine DOps.st 91 rfl rfl (op_load_m (cs' := [_, _, _, _, _]) (i := 2) rfl ta_68 rfl rfl rfl rfl ⟨rfl, rfl⟩) ?_) | (refine DOps.st 91 rfl rfl (op_load_m (cs' := [_, _, _, _, _]) (i := 3) rfl ta_68 rfl rfl rfl rfl ⟨rfl, rfl⟩) ?_) | (refine DOps.st 91 rfl rfl (op_load_m (cs' := [_, _, _, _, _]) (i := 4) rfl ta_68 rfl rfl rfl rfl ⟨rfl, rfl⟩) ?_) | (refine DOps.st 91 rfl rfl (op_load_m (cs' := [_, _, _, _, _]) (i := 5) rfl ta_68 rfl rfl rfl rfl ⟨rfl, rfl⟩) ?_) | (refine DOps.st 91 rfl rfl (op_load_c (cs' := [_, _, _, _, _]) rfl ta_68 rfl rfl rfl ⟨rfl, rfl⟩) ?_)
          refine DOps.st 92 rfl rfl (op_fieldAddr_c rfl tf_60_5 rfl rfl ⟨rfl, rfl⟩) ?_
          refine DOps.st 93 rfl rfl (op_load_c1 rfl ta_57 rfl rfl ⟨rfl, rfl⟩) ?_
          refine DOps.st 94 rfl rfl (op_move rfl rfl ⟨rfl, rfl⟩) ?_
          refine DOps.st 95 rfl rfl (op_index rfl te_57 rfl (.seq _ _) rfl rfl (by assumption) ⟨rfl, rfl⟩) ?_
          first | (refine DOps.st 96 rfl rfl (op_fieldAddr_m rfl tf_70_0 rfl ⟨rfl, rfl⟩) ?_) | (refine DOps.st 96 rfl rfl (op_fieldAddr_c rfl tf_70_0 rfl rfl ⟨rfl, rfl⟩) ?_)
          first | (refine DOps.st 97 rfl rfl (op_load_m (cs' := [_, _, _, _, _]) (i := 0) rfl ta_68 rfl rfl rfl rfl ⟨rfl, rfl⟩) ?_) | (refine DOps.st 97 rfl rfl (op_load_m (cs' := [_, _, _, _, _]) (i := 1) rfl ta_68 rfl rfl rfl rfl ⟨rfl, rfl⟩) ?_) | (refine DOps.st 97 rfl rfl (op_load_m (cs' := [_, _, _, _, _]) (i := 2) rfl ta_68 rfl rfl rfl rfl ⟨rfl, rfl⟩) ?_) | (refine DOps.st 97 rfl rfl (op_load_m (cs' := [_, _, _, _, _]) (i := 3) rfl ta_68 rfl rfl rfl rfl ⟨rfl, rfl⟩) ?_) | (refine DOps.st 97 rfl rfl (op_load_m (cs' := [_, _, _, _, _]) (i := 4) rfl ta_68 rfl rfl rfl rfl ⟨rfl, rfl⟩) ?_) | (refine DOps.st 97 rfl rfl (op_load_m (cs' := [_, _, _, _, _]) (i := 5) rfl ta_68 rfl rfl rfl rfl ⟨rfl, rfl⟩) ?_) | (refine DOps.st 97 rfl rfl (op_load_c (cs' := [_, _, _, _, _]) rfl ta_68 rfl rfl rfl ⟨rfl, rfl⟩) ?_)
          refine DOps.cm 98 rfl rfl (fun _ q => op_callb (xs := [.tmp 91, .tmp 97]) rfl rfl (HP) (by first | exact Les.refl _ | (repeat' (first | exact Les.refl _ | refine Les.cons ?_ ?_ | exact Le.refl _ | exact Le.own _ _ _ | exact Le.nil _ | refine Le.agg ?_))) q) ?_; intro c98 h98
          refine DOps.cm 99 rfl rfl (fun _ q => op_notc rfl rfl q) ?_; intro c99 h99
          try replace h99 := nott h99 h98
          refine DOps.st 100 rfl rfl (op_move rfl rfl ⟨rfl, rfl⟩) ?_
          rcases bool_split h99 with ⟨rfl, g99⟩ | ⟨rfl, g99⟩
          · skip
            refine DOps.gt 101 rfl rfl rfl rfl (op_fieldAddr_c rfl tf_60_5 rfl rfl ⟨rfl, rfl⟩) ?_
            refine DOps.gt 102 rfl rfl rfl rfl (op_load_c1 rfl ta_57 rfl rfl ⟨rfl, rfl⟩) ?_
            refine DOps.gt 103 rfl rfl rfl rfl (op_move rfl rfl ⟨rfl, rfl⟩) ?_
            refine DOps.gt 104 rfl rfl rfl rfl (op_index rfl te_57 rfl (.seq _ _) rfl rfl (by assumption) ⟨rfl, rfl⟩) ?_
            first | (refine DOps.gt 105 rfl rfl rfl rfl (op_fieldAddr_m rfl tf_70_1 rfl ⟨rfl, rfl⟩) ?_) | (refine DOps.gt 105 rfl rfl rfl rfl (op_fieldAddr_c rfl tf_70_1 rfl rfl ⟨rfl, rfl⟩) ?_)
            first | (refine DOps.gt 106 rfl rfl rfl rfl (op_load_m (cs' := [_, _, _, _, _, _, _, _, _, _, _]) (i := 0) rfl ta_60 rfl rfl rfl rfl ⟨rfl, rfl⟩) ?_) | (refine DOps.gt 106 rfl rfl rfl rfl (op_load_m (cs' := [_, _, _, _, _, _, _, _, _, _, _]) (i := 1) rfl ta_60 rfl rfl rfl rfl ⟨rfl, rfl⟩) ?_) | (refine DOps.gt 106 rfl rfl rfl rfl (op_load_m (cs' := [_, _, _, _, _, _, _, _, _, _, _]) (i := 2) rfl ta_60 rfl rfl rfl rfl ⟨rfl, rfl⟩) ?_) | (refine DOps.gt 106 rfl rfl rfl rfl (op_load_m (cs' := [_, _, _, _, _, _, _, _, _, _, _]) (i := 3) rfl ta_60 rfl rfl rfl rfl ⟨rfl, rfl⟩) ?_) | (refine DOps.gt 106 rfl rfl rfl rfl (op_load_m (cs' := [_, _, _, _, _, _, _, _, _, _, _]) (i := 4) rfl ta_60 rfl rfl rfl rfl ⟨rfl, rfl⟩) ?_) | (refine DOps.gt 106 rfl rfl rfl rfl (op_load_m (cs' := [_, _, _, _, _, _, _, _, _, _, _]) (i := 5) rfl ta_60 rfl rfl rfl rfl ⟨rfl, rfl⟩) ?_) | (refine DOps.gt 106 rfl rfl rfl rfl (op_load_c (cs' := [_, _, _, _, _, _, _, _, _, _, _]) rfl ta_60 rfl rfl rfl ⟨rfl, rfl⟩) ?_)
            refine DOps.gt 107 rfl rfl rfl rfl (op_fieldAddr_c rfl tf_60_5 rfl rfl ⟨rfl, rfl⟩) ?_
            refine DOps.gt 108 rfl rfl rfl rfl (op_load_c1 rfl ta_57 rfl rfl ⟨rfl, rfl⟩) ?_
            refine DOps.gt 109 rfl rfl rfl rfl (op_move rfl rfl ⟨rfl, rfl⟩) ?_
            refine DOps.gt 110 rfl rfl rfl rfl (op_index rfl te_57 rfl (.seq _ _) rfl rfl (by assumption) ⟨rfl, rfl⟩) ?_
            first | (refine DOps.gt 111 rfl rfl rfl rfl (op_fieldAddr_m rfl tf_70_1 rfl ⟨rfl, rfl⟩) ?_) | (refine DOps.gt 111 rfl rfl rfl rfl (op_fieldAddr_c rfl tf_70_1 rfl rfl ⟨rfl, rfl⟩) ?_)
            first | (refine DOps.gt 112 rfl rfl rfl rfl (op_load_m (cs' := [_, _, _, _, _, _, _, _, _, _, _]) (i := 0) rfl ta_60 rfl rfl rfl rfl ⟨rfl, rfl⟩) ?_) | (refine DOps.gt 112 rfl rfl rfl rfl (op_load_m (cs' := [_, _, _, _, _, _, _, _, _, _, _]) (i := 1) rfl ta_60 rfl rfl rfl rfl ⟨rfl, rfl⟩) ?_) | (refine DOps.gt 112 rfl rfl rfl rfl (op_load_m (cs' := [_, _, _, _, _, _, _, _, _, _, _]) (i := 2) rfl ta_60 rfl rfl rfl rfl ⟨rfl, rfl⟩) ?_) | (refine DOps.gt 112 rfl rfl rfl rfl (op_load_m (cs' := [_, _, _, _, _, _, _, _, _, _, _]) (i := 3) rfl ta_60 rfl rfl rfl rfl ⟨rfl, rfl⟩) ?_) | (refine DOps.gt 112 rfl rfl rfl rfl (op_load_m (cs' := [_, _, _, _, _, _, _, _, _, _, _]) (i := 4) rfl ta_60 rfl rfl rfl rfl ⟨rfl, rfl⟩) ?_) | (refine DOps.gt 112 rfl rfl rfl rfl (op_load_m (cs' := [_, _, _, _, _, _, _, _, _, _, _]) (i := 5) rfl ta_60 rfl rfl rfl rfl ⟨rfl, rfl⟩) ?_) | (refine DOps.gt 112 rfl rfl rfl rfl (op_load_c (cs' := [_, _, _, _, _, _, _, _, _, _, _]) rfl ta_60 rfl rfl rfl ⟨rfl, rfl⟩) ?_)
            refine DOps.gtc 113 rfl rfl rfl rfl (fun _ q => op_callb (xs := [.tmp 106, .tmp 112]) rfl rfl (HS) (by first | exact Les.refl _ | (repeat' (first | exact Les.refl _ | refine Les.cons ?_ ?_ | exact Le.refl _ | exact Le.own _ _ _ | exact Le.nil _ | refine Le.agg ?_))) q) ?_; intro c113 h113
            refine DOps.gtc 114 rfl rfl rfl rfl (fun _ q => op_notc rfl rfl q) ?_; intro c114 h114
            try replace h114 := nott h114 h113
            refine DOps.st 115 rfl rfl (op_pick rfl rfl rfl ⟨rfl, rfl⟩) ?_
            show BoolQ _ _ _ _ _ _
            refine BoolQ.mk rfl ?_ (by repeat' (first | exact SLe.wo _ _ | exact SLe.refl _ | refine SLe.fresh rfl ?_)) (by first | exact MLe.none _ | exact MLe.refl _ | (repeat' (first | exact MLe.nil | exact MLe.refl _ | refine MLe.cons _ ?_ | refine MLe.drop _ ?_)))
            simp_all
          · skip
            refine DOps.gf 101 rfl rfl rfl rfl ?_
            refine DOps.gf 102 rfl rfl rfl rfl ?_
            refine DOps.gf 103 rfl rfl rfl rfl ?_
            refine DOps.gf 104 rfl rfl rfl rfl ?_
            refine DOps.gf 105 rfl rfl rfl rfl ?_
            refine DOps.gf 106 rfl rfl rfl rfl ?_
            refine DOps.gf 107 rfl rfl rfl rfl ?_
            refine DOps.gf 108 rfl rfl rfl rfl ?_
            refine DOps.gf 109 rfl rfl rfl rfl ?_
            refine DOps.gf 110 rfl rfl rfl rfl ?_
            refine DOps.gf 111 rfl rfl rfl rfl ?_
            refine DOps.gf 112 rfl rfl rfl rfl ?_
            refine DOps.gf 113 rfl rfl rfl rfl ?_
            refine DOps.gf 114 rfl rfl rfl rfl ?_
            refine DOps.st 115 rfl rfl (op_pick rfl rfl rfl ⟨rfl, rfl⟩) ?_
            show BoolQ _ _ _ _ _ _
            refine BoolQ.mk rfl ?_ (by repeat' (first | exact SLe.wo _ _ | exact SLe.refl _ | refine SLe.fresh rfl ?_)) (by first | exact MLe.none _ | exact MLe.refl _ | (repeat' (first | exact MLe.nil | exact MLe.refl _ | refine MLe.cons _ ?_ | refine MLe.drop _ ?_)))
            simp_all
        intro c115 h115
        refine go_code ?_
        rcases bool_split h115 with ⟨rfl, g115⟩ | ⟨rfl, g115⟩
        · refine c_cond_f rfl ?_
          refine c_skip ?_
          refine go_blk ?_
          refine go_code ?_
          refine c_region ?_
          refine AOps.st 84 rfl rfl rfl (op_move rfl rfl ?_)
          refine AOps.st 85 rfl rfl rfl (op_add rfl rfl rfl (IntWalk.i64_in _ (by omega)) ?_)
          refine AOps.st 6 rfl rfl rfl (op_assign rfl rfl ?_)
          refine AOps.nil ?_
          refine go_lp ?_
          exact ⟨j + 1, ⟨by omega, heq (Classical.not_not.1 g115)⟩, by simp; omega, (by repeat' (first | exact SLe.nil _ | refine SLe.cons rfl ?_ ?_ | exact Le.refl _ | exact Le.own _ _ _ | exact Le.nil _)), (by first | exact MLe.none _ | exact MLe.refl _ | (repeat' (first | exact MLe.nil | exact MLe.refl _ | refine MLe.cons _ ?_ | refine MLe.drop _ ?_)))⟩
        · refine c_cond_t rfl ?_
          refine c_seq ?_
          refine c_region ?_
          refine AOps.st 4 rfl rfl rfl (op_assign rfl rfl ?_)
          refine AOps.nil ?_
          refine go_code ?_
          refine c_ret ?_
          exact out_tmp rfl rfl (Le.refl _) (by first | exact MLe.none _ | exact MLe.refl _ | (repeat' (first | exact MLe.nil | exact MLe.refl _ | refine MLe.cons _ ?_ | refine MLe.drop _ ?_))) ⟨⟨_, iff_f (fun q => hne g115 q.2.2.2.2.2.1), rfl⟩, rfl⟩
    · refine c_cond_t rfl ?_
      refine c_skip ?_
      refine go_code ?_
      refine c_seq ?_
      refine c_block ?_
      refine c_seq ?_
      obtain ⟨⟨xk, xs, xn, ⟨xtk, xts, xtn, xtks⟩, xks, xal, xbs, xp⟩, hx⟩ := get_some (l := ks1) (i := i) (by omega)
      obtain ⟨⟨yk, ys, yn, ⟨ytk, yts, ytn, ytks⟩, yks, yal, ybs, yp⟩, hy⟩ := get_some (l := ks2) (i := i) (by omega)
      have hcx := Ex.cellss_get hx
      have hcy := Ex.cellss_get hy
      refine c_drawn tmix rfl ?_
      refine DOps.st 67 rfl rfl (op_fieldAddr_c rfl tf_60_4 rfl rfl ⟨rfl, rfl⟩) ?_
      refine DOps.st 68 rfl rfl (op_load_c1 rfl ta_56 rfl rfl ⟨rfl, rfl⟩) ?_
      refine DOps.st 69 rfl rfl (op_move rfl rfl ⟨rfl, rfl⟩) ?_
      refine DOps.st 70 rfl rfl (op_index rfl te_56 rfl (.seq _ _) rfl rfl (by assumption) ⟨rfl, rfl⟩) ?_
      first | (refine DOps.st 71 rfl rfl (op_load_m (cs' := [_, _, _, _, _, _, _, _, _, _, _]) (i := 0) rfl ta_60 rfl rfl rfl rfl ⟨rfl, rfl⟩) ?_) | (refine DOps.st 71 rfl rfl (op_load_m (cs' := [_, _, _, _, _, _, _, _, _, _, _]) (i := 1) rfl ta_60 rfl rfl rfl rfl ⟨rfl, rfl⟩) ?_) | (refine DOps.st 71 rfl rfl (op_load_m (cs' := [_, _, _, _, _, _, _, _, _, _, _]) (i := 2) rfl ta_60 rfl rfl rfl rfl ⟨rfl, rfl⟩) ?_) | (refine DOps.st 71 rfl rfl (op_load_m (cs' := [_, _, _, _, _, _, _, _, _, _, _]) (i := 3) rfl ta_60 rfl rfl rfl rfl ⟨rfl, rfl⟩) ?_) | (refine DOps.st 71 rfl rfl (op_load_m (cs' := [_, _, _, _, _, _, _, _, _, _, _]) (i := 4) rfl ta_60 rfl rfl rfl rfl ⟨rfl, rfl⟩) ?_) | (refine DOps.st 71 rfl rfl (op_load_m (cs' := [_, _, _, _, _, _, _, _, _, _, _]) (i := 5) rfl ta_60 rfl rfl rfl rfl ⟨rfl, rfl⟩) ?_) | (refine DOps.st 71 rfl rfl (op_load_c (cs' := [_, _, _, _, _, _, _, _, _, _, _]) rfl ta_60 rfl rfl rfl ⟨rfl, rfl⟩) ?_)
      refine DOps.st 72 rfl rfl (op_fieldAddr_c rfl tf_60_4 rfl rfl ⟨rfl, rfl⟩) ?_
      refine DOps.st 73 rfl rfl (op_load_c1 rfl ta_56 rfl rfl ⟨rfl, rfl⟩) ?_
      refine DOps.st 74 rfl rfl (op_move rfl rfl ⟨rfl, rfl⟩) ?_
      refine DOps.st 75 rfl rfl (op_index rfl te_56 rfl (.seq _ _) rfl rfl (by assumption) ⟨rfl, rfl⟩) ?_
      first | (refine DOps.st 76 rfl rfl (op_load_m (cs' := [_, _, _, _, _, _, _, _, _, _, _]) (i := 0) rfl ta_60 rfl rfl rfl rfl ⟨rfl, rfl⟩) ?_) | (refine DOps.st 76 rfl rfl (op_load_m (cs' := [_, _, _, _, _, _, _, _, _, _, _]) (i := 1) rfl ta_60 rfl rfl rfl rfl ⟨rfl, rfl⟩) ?_) | (refine DOps.st 76 rfl rfl (op_load_m (cs' := [_, _, _, _, _, _, _, _, _, _, _]) (i := 2) rfl ta_60 rfl rfl rfl rfl ⟨rfl, rfl⟩) ?_) | (refine DOps.st 76 rfl rfl (op_load_m (cs' := [_, _, _, _, _, _, _, _, _, _, _]) (i := 3) rfl ta_60 rfl rfl rfl rfl ⟨rfl, rfl⟩) ?_) | (refine DOps.st 76 rfl rfl (op_load_m (cs' := [_, _, _, _, _, _, _, _, _, _, _]) (i := 4) rfl ta_60 rfl rfl rfl rfl ⟨rfl, rfl⟩) ?_) | (refine DOps.st 76 rfl rfl (op_load_m (cs' := [_, _, _, _, _, _, _, _, _, _, _]) (i := 5) rfl ta_60 rfl rfl rfl rfl ⟨rfl, rfl⟩) ?_) | (refine DOps.st 76 rfl rfl (op_load_c (cs' := [_, _, _, _, _, _, _, _, _, _, _]) rfl ta_60 rfl rfl rfl ⟨rfl, rfl⟩) ?_)
      refine DOps.cm 77 rfl rfl (fun _ q => op_callb (xs := [.tmp 71, .tmp 76]) rfl rfl (HK _ (List.mem_of_getElem? hx) ⟨yk, ys, yn, ⟨ytk, yts, ytn, ytks⟩, yks, yal, ybs, yp⟩) (by first | exact Les.refl _ | (repeat' (first | exact Les.refl _ | refine Les.cons ?_ ?_ | exact Le.refl _ | exact Le.own _ _ _ | exact Le.nil _ | refine Le.agg ?_))) q) ?_; intro c77 h77
      refine DOps.cm 78 rfl rfl (fun _ q => op_notc rfl rfl q) ?_; intro c78 h78
      try replace h78 := nott h78 h77
      show AGo _ _ _ _ _ _ _
      refine go_code ?_
      rcases bool_split h78 with ⟨rfl, g78⟩ | ⟨rfl, g78⟩
      · refine c_cond_f rfl ?_
        refine c_skip ?_
        refine go_blk ?_
        refine go_code ?_
        refine c_region ?_
        refine AOps.st 65 rfl rfl rfl (op_move rfl rfl ?_)
        refine AOps.st 66 rfl rfl rfl (op_add rfl rfl rfl (IntWalk.i64_in _ (by omega)) ?_)
        refine AOps.st 5 rfl rfl rfl (op_assign rfl rfl ?_)
        refine AOps.nil ?_
        refine go_lp ?_
        exact ⟨i + 1, ⟨by omega, upto_map Ex.bare hu hx hy (Classical.not_not.1 g78)⟩, by simp; omega, (by repeat' (first | exact SLe.nil _ | refine SLe.cons rfl ?_ ?_ | exact Le.refl _ | exact Le.own _ _ _ | exact Le.nil _)), (by first | exact MLe.none _ | exact MLe.refl _ | (repeat' (first | exact MLe.nil | exact MLe.refl _ | refine MLe.cons _ ?_ | refine MLe.drop _ ?_)))⟩
      · refine c_cond_t rfl ?_
        refine c_seq ?_
        refine c_region ?_
        refine AOps.st 4 rfl rfl rfl (op_assign rfl rfl ?_)
        refine AOps.nil ?_
        refine go_code ?_
        refine c_ret ?_
        exact out_tmp rfl rfl (Le.refl _) (by first | exact MLe.none _ | exact MLe.refl _ | (repeat' (first | exact MLe.nil | exact MLe.refl _ | refine MLe.cons _ ?_ | refine MLe.drop _ ?_))) ⟨⟨_, iff_f (fun q => map_ne Ex.bare hx hy g78 q.2.2.2.2.1), rfl⟩, rfl⟩
  · refine c_cond_t rfl ?_
    refine c_seq ?_
    refine c_region ?_
    refine AOps.st 4 rfl rfl rfl (op_assign rfl rfl ?_)
    refine AOps.nil ?_
    refine go_code ?_
    refine c_ret ?_
    exact out_tmp rfl rfl (Le.refl _) (by first | exact MLe.none _ | exact MLe.refl _ | (repeat' (first | exact MLe.nil | exact MLe.refl _ | refine MLe.cons _ ?_ | refine MLe.drop _ ?_))) ⟨⟨_, iff_f (fun q => g59 ⟨q.1, q.2.1, q.2.2.1, q.2.2.2.1, by simpa using congrArg List.length q.2.2.2.2.1, by simpa using congrArg List.length q.2.2.2.2.2.1, q.2.2.2.2.2.2⟩), rfl⟩, rfl⟩
termination_by SizeOf.sizeOf a
decreasing_by
  · exact Ex.lt_kid hx
  · exact Nat.lt_trans (Al.lt_e x) (Ex.lt_alt hx)
  · exact Nat.lt_trans (Bi.lt_e x) (Ex.lt_bind hx)
theorem SameBinds_c (xs ys : List Bi) : BCall Try.prog 92 [.seq 13 (Bi.cellss xs), .seq 13 (Bi.cellss ys)] (xs.map Bi.bare = ys.map Bi.bare) := SameBinds_of xs ys (fun x _ y => rSame_c x.e y)
theorem sameBind_c (a b : Bi) : BCall Try.prog 90 [.agg a.cells, .agg b.cells] (a.bare = b.bare) := sameBind_of a b (tSame_c a.e b.e)
end Go.Proofs.Ytjgjnheeohfmmaa
