/- cognateref05.SameProg and what it calls; cognatelaw05.Few. -/
import Derived.Test.YtjgjnheeohfmmaaB05h
import Derived.Test.YtjgjnheeohfmmaaB05q
namespace Go.Proofs.Ytjgjnheeohfmmaa
open Go.RowKit
set_option maxHeartbeats 4000000 in
set_option maxRecDepth 100000 in
theorem rSameData_c (a b : Da) : BCall Try.prog 105 [.agg a.cells, .agg b.cells] (a.key = b.key) := by
  obtain ⟨s1, ps1, cs1, dv1, p1⟩ := a
  obtain ⟨s2, ps2, cs2, dv2, p2⟩ := b
  have hk : ((Da.mk s1 ps1 cs1 dv1 p1).key = (Da.mk s2 ps2 cs2 dv2 p2).key) = (s1 = s2 ∧ ps1 = ps2 ∧ cs1.map Cn.key = cs2.map Cn.key ∧ dv1 = dv2) := by simp [Da.key, Da.s, Da.ps, Da.cs, Da.dv]
  have hl1 := Cn.cellss_len cs1
  have hl2 := Cn.cellss_len cs2
  rw [hk]
  refine ACall.enter Try.func105 rfl (by kernel_rfl) rfl (Nat.le_of_ble_eq_true rfl) ?_
  refine c_start ?_
  refine c_lena (t := 0) (j := 2) rfl rfl (.seq _ _) (fun hmax => ?_)
  refine c_seq ?_
  refine c_region ?_
  refine AOps.st 2 rfl rfl rfl (op_boxc (cs' := [_, _, _, _, _]) rfl rfl rfl rfl ?_)
  refine AOps.st 3 rfl rfl rfl (op_boxc (cs' := [_, _, _, _, _]) rfl rfl rfl rfl ?_)
  refine AOps.st 4 rfl rfl rfl (op_assign rfl rfl ?_)
  refine AOps.nil ?_
  refine go_code ?_
  refine c_seq ?_
  refine c_seq ?_
  refine c_bool 35 (¬ (s1 = s2 ∧ ps1 = ps2 ∧ dv1 = dv2 ∧ cs1.length = cs2.length)) ?_ _ _ rfl ?_
  · skip
    refine AOps.st 6 rfl rfl rfl (op_fieldAddr_c rfl tf_130_0 rfl rfl ?_)
    refine AOps.st 7 rfl rfl rfl (op_load_c1 rfl ta_9 rfl rfl ?_)
    refine AOps.st 8 rfl rfl rfl (op_fieldAddr_c rfl tf_130_0 rfl rfl ?_)
    refine AOps.st 9 rfl rfl rfl (op_load_c1 rfl ta_9 rfl rfl ?_)
    refine AOps.st 10 rfl rfl rfl (op_sneq rfl rfl rfl ?_); intro c10 h10
    refine AOps.st 11 rfl rfl rfl (op_move rfl rfl ?_)
    rcases bool_split h10 with ⟨rfl, g10⟩ | ⟨rfl, g10⟩
    · skip
      refine AOps.gt 12 rfl rfl rfl rfl rfl (op_fieldAddr_c rfl tf_130_1 rfl rfl ?_)
      refine AOps.gt 13 rfl rfl rfl rfl rfl (op_load_c1 rfl ta_27 rfl rfl ?_)
      refine AOps.gt 14 rfl rfl rfl rfl rfl (op_fieldAddr_c rfl tf_130_1 rfl rfl ?_)
      refine AOps.gt 15 rfl rfl rfl rfl rfl (op_load_c1 rfl ta_27 rfl rfl ?_)
      refine AOps.gt 16 rfl rfl rfl rfl rfl (op_callb (xs := [.tmp 13, .tmp 15]) rfl rfl (Texts_c ps1 ps2) (by first | exact Les.refl _ | (repeat' (first | exact Les.refl _ | refine Les.cons ?_ ?_ | exact Le.refl _ | exact Le.own _ _ _ | exact Le.nil _ | refine Le.agg ?_))) ?_); intro c16 h16
      refine AOps.gt 17 rfl rfl rfl rfl rfl (op_notc rfl rfl ?_); intro c17 h17
      try replace h17 := nott h17 h16
      refine AOps.st 18 rfl rfl rfl (op_pick rfl rfl rfl ?_)
      refine AOps.st 19 rfl rfl rfl (op_move rfl rfl ?_)
      rcases bool_split h17 with ⟨rfl, g17⟩ | ⟨rfl, g17⟩
      · skip
        refine AOps.gt 20 rfl rfl rfl rfl rfl (op_fieldAddr_c rfl tf_130_3 rfl rfl ?_)
        refine AOps.gt 21 rfl rfl rfl rfl rfl (op_load_c1 rfl ta_27 rfl rfl ?_)
        refine AOps.gt 22 rfl rfl rfl rfl rfl (op_fieldAddr_c rfl tf_130_3 rfl rfl ?_)
        refine AOps.gt 23 rfl rfl rfl rfl rfl (op_load_c1 rfl ta_27 rfl rfl ?_)
        refine AOps.gt 24 rfl rfl rfl rfl rfl (op_callb (xs := [.tmp 21, .tmp 23]) rfl rfl (Texts_c dv1 dv2) (by first | exact Les.refl _ | (repeat' (first | exact Les.refl _ | refine Les.cons ?_ ?_ | exact Le.refl _ | exact Le.own _ _ _ | exact Le.nil _ | refine Le.agg ?_))) ?_); intro c24 h24
        refine AOps.gt 25 rfl rfl rfl rfl rfl (op_notc rfl rfl ?_); intro c25 h25
        try replace h25 := nott h25 h24
        refine AOps.st 26 rfl rfl rfl (op_pick rfl rfl rfl ?_)
        refine AOps.st 27 rfl rfl rfl (op_move rfl rfl ?_)
        rcases bool_split h25 with ⟨rfl, g25⟩ | ⟨rfl, g25⟩
        · skip
          refine AOps.gt 28 rfl rfl rfl rfl rfl (op_fieldAddr_c rfl tf_130_2 rfl rfl ?_)
          refine AOps.gt 29 rfl rfl rfl rfl rfl (op_load_c1 rfl ta_128 rfl rfl ?_)
          refine AOps.gt 30 rfl rfl rfl rfl rfl (op_len rfl tu_128 rfl (.seq _ _) (fun n30 => ?_))
          refine AOps.gt 31 rfl rfl rfl rfl rfl (op_fieldAddr_c rfl tf_130_2 rfl rfl ?_)
          refine AOps.gt 32 rfl rfl rfl rfl rfl (op_load_c1 rfl ta_128 rfl rfl ?_)
          refine AOps.gt 33 rfl rfl rfl rfl rfl (op_len rfl tu_128 rfl (.seq _ _) (fun n33 => ?_))
          refine AOps.gt 34 rfl rfl rfl rfl rfl (op_neq rfl rfl rfl ?_); intro c34 h34
          refine AOps.st 35 rfl rfl rfl (op_pick rfl rfl rfl ?_)
          refine AOps.nil ?_
          refine BoolQ.mk rfl ?_ (by repeat' (first | exact SLe.wo _ _ | exact SLe.refl _ | refine SLe.fresh rfl ?_)) (by first | exact MLe.none _ | exact MLe.refl _ | (repeat' (first | exact MLe.nil | exact MLe.refl _ | refine MLe.cons _ ?_ | refine MLe.drop _ ?_)))
          first | (simp_all; done) | (simp_all; omega)
        · skip
          refine AOps.gf 28 rfl rfl rfl rfl rfl ?_
          refine AOps.gf 29 rfl rfl rfl rfl rfl ?_
          refine AOps.gf 30 rfl rfl rfl rfl rfl ?_
          refine AOps.gf 31 rfl rfl rfl rfl rfl ?_
          refine AOps.gf 32 rfl rfl rfl rfl rfl ?_
          refine AOps.gf 33 rfl rfl rfl rfl rfl ?_
          refine AOps.gf 34 rfl rfl rfl rfl rfl ?_
          refine AOps.st 35 rfl rfl rfl (op_pick rfl rfl rfl ?_)
          refine AOps.nil ?_
          refine BoolQ.mk rfl ?_ (by repeat' (first | exact SLe.wo _ _ | exact SLe.refl _ | refine SLe.fresh rfl ?_)) (by first | exact MLe.none _ | exact MLe.refl _ | (repeat' (first | exact MLe.nil | exact MLe.refl _ | refine MLe.cons _ ?_ | refine MLe.drop _ ?_)))
          simp_all; done
      · skip
        refine AOps.gf 20 rfl rfl rfl rfl rfl ?_
        refine AOps.gf 21 rfl rfl rfl rfl rfl ?_
        refine AOps.gf 22 rfl rfl rfl rfl rfl ?_
        refine AOps.gf 23 rfl rfl rfl rfl rfl ?_
        refine AOps.gf 24 rfl rfl rfl rfl rfl ?_
        refine AOps.gf 25 rfl rfl rfl rfl rfl ?_
        refine AOps.st 26 rfl rfl rfl (op_pick rfl rfl rfl ?_)
        refine AOps.st 27 rfl rfl rfl (op_move rfl rfl ?_)
        refine AOps.gf 28 rfl rfl rfl rfl rfl ?_
        refine AOps.gf 29 rfl rfl rfl rfl rfl ?_
        refine AOps.gf 30 rfl rfl rfl rfl rfl ?_
        refine AOps.gf 31 rfl rfl rfl rfl rfl ?_
        refine AOps.gf 32 rfl rfl rfl rfl rfl ?_
        refine AOps.gf 33 rfl rfl rfl rfl rfl ?_
        refine AOps.gf 34 rfl rfl rfl rfl rfl ?_
        refine AOps.st 35 rfl rfl rfl (op_pick rfl rfl rfl ?_)
        refine AOps.nil ?_
        refine BoolQ.mk rfl ?_ (by repeat' (first | exact SLe.wo _ _ | exact SLe.refl _ | refine SLe.fresh rfl ?_)) (by first | exact MLe.none _ | exact MLe.refl _ | (repeat' (first | exact MLe.nil | exact MLe.refl _ | refine MLe.cons _ ?_ | refine MLe.drop _ ?_)))
        simp_all; done
    · skip
      refine AOps.gf 12 rfl rfl rfl rfl rfl ?_
      refine AOps.gf 13 rfl rfl rfl rfl rfl ?_
      refine AOps.gf 14 rfl rfl rfl rfl rfl ?_
      refine AOps.gf 15 rfl rfl rfl rfl rfl ?_
      refine AOps.gf 16 rfl rfl rfl rfl rfl ?_
      refine AOps.gf 17 rfl rfl rfl rfl rfl ?_
      refine AOps.st 18 rfl rfl rfl (op_pick rfl rfl rfl ?_)
      refine AOps.st 19 rfl rfl rfl (op_move rfl rfl ?_)
      refine AOps.gf 20 rfl rfl rfl rfl rfl ?_
      refine AOps.gf 21 rfl rfl rfl rfl rfl ?_
      refine AOps.gf 22 rfl rfl rfl rfl rfl ?_
      refine AOps.gf 23 rfl rfl rfl rfl rfl ?_
      refine AOps.gf 24 rfl rfl rfl rfl rfl ?_
      refine AOps.gf 25 rfl rfl rfl rfl rfl ?_
      refine AOps.st 26 rfl rfl rfl (op_pick rfl rfl rfl ?_)
      refine AOps.st 27 rfl rfl rfl (op_move rfl rfl ?_)
      refine AOps.gf 28 rfl rfl rfl rfl rfl ?_
      refine AOps.gf 29 rfl rfl rfl rfl rfl ?_
      refine AOps.gf 30 rfl rfl rfl rfl rfl ?_
      refine AOps.gf 31 rfl rfl rfl rfl rfl ?_
      refine AOps.gf 32 rfl rfl rfl rfl rfl ?_
      refine AOps.gf 33 rfl rfl rfl rfl rfl ?_
      refine AOps.gf 34 rfl rfl rfl rfl rfl ?_
      refine AOps.st 35 rfl rfl rfl (op_pick rfl rfl rfl ?_)
      refine AOps.nil ?_
      refine BoolQ.mk rfl ?_ (by repeat' (first | exact SLe.wo _ _ | exact SLe.refl _ | refine SLe.fresh rfl ?_)) (by first | exact MLe.none _ | exact MLe.refl _ | (repeat' (first | exact MLe.nil | exact MLe.refl _ | refine MLe.cons _ ?_ | refine MLe.drop _ ?_)))
      simp_all; done
  intro c35 h35
  refine go_code ?_
  rcases bool_split h35 with ⟨rfl, g35⟩ | ⟨rfl, g35⟩
  · refine c_cond_f rfl ?_
    refine c_skip ?_
    refine go_code ?_
    refine c_seq ?_
    refine c_seq ?_
    obtain ⟨e1, e2, e3, e4⟩ := Classical.not_not.1 g35
    refine c_region ?_
    refine AOps.st 5 rfl rfl rfl (op_assign rfl rfl ?_)
    refine AOps.nil ?_
    refine go_code ?_
    refine c_block ?_
    apply c_loopkm [0, 1, 4, 5, 6, 7, 8, 9, 10, 11, 12, 13, 14, 15, 16, 17, 18, 19, 20, 21, 22, 23, 24, 25, 26, 27, 28, 29, 30, 31, 32, 33, 34, 35, 36, 37, 38, 39, 40, 41, 42, 43, 44, 45, 46, 47, 48, 49, 50, 51, 52, 53, 54, 55, 56, 57, 58, 59, 60, 61, 62, 63, 64, 65, 66, 67, 68, 69, 70, 71] (σ := Nat) (fun zz => match zz with | i => [(5, .val (.int .i64 i))]) (fun zz => match zz with | i => i ≤ cs1.length ∧ Upto (cs1.map Cn.key) (cs2.map Cn.key) i) (fun zz => match zz with | i => cs1.length - i) (0)
    · repeat' (first | exact Drops.nil | apply Drops.keep rfl | apply Drops.skip rfl)
    · exact ⟨by omega, Upto.zero _ _⟩
    · exact (by repeat' (first | exact SLe.nil _ | refine SLe.cons rfl ?_ ?_ | exact Le.refl _ | exact Le.own _ _ _ | exact Le.nil _))
    rintro i hI
    try dsimp only [List.cons_append, List.nil_append] at hI ⊢
    obtain ⟨hi, hu⟩ := hI
    refine c_seq ?_
    refine c_seq ?_
    refine c_region ?_
    refine AOps.st 36 rfl rfl rfl (op_move rfl rfl ?_)
    refine AOps.st 37 rfl rfl rfl (op_fieldAddr_c rfl tf_130_2 rfl rfl ?_)
    refine AOps.st 38 rfl rfl rfl (op_load_c1 rfl ta_128 rfl rfl ?_)
    refine AOps.st 39 rfl rfl rfl (op_len rfl tu_128 rfl (.seq _ _) (fun n39 => ?_))
    refine AOps.st 40 rfl rfl rfl (op_lss rfl rfl rfl ?_); intro c40 h40
    refine AOps.nil ?_
    refine go_code ?_
    rcases bool_split h40 with ⟨rfl, g40⟩ | ⟨rfl, g40⟩
    · refine c_cond_f rfl ?_
      refine c_exit ?_
      refine x_code ?_
      refine x_lp ?_
      refine x_here ?_
      refine go_code ?_
      refine c_seq ?_
      refine c_region ?_
      refine AOps.st 4 rfl rfl rfl (op_assign rfl rfl ?_)
      refine AOps.nil ?_
      refine go_code ?_
      refine c_ret ?_
      exact out_tmp rfl rfl (Le.refl _) (by first | exact MLe.none _ | exact MLe.refl _ | (repeat' (first | exact MLe.nil | exact MLe.refl _ | refine MLe.cons _ ?_ | refine MLe.drop _ ?_))) ⟨⟨_, iff_t ⟨e1, e2, hu.eq (by simp; omega) (by simp; omega), e3⟩, rfl⟩, rfl⟩
    · refine c_cond_t rfl ?_
      refine c_skip ?_
      refine go_code ?_
      refine c_seq ?_
      refine c_block ?_
      refine c_seq ?_
      obtain ⟨⟨xs, xts, xp⟩, hxx⟩ := get_some (l := cs1) (i := i) (by first | omega | (simp at *; omega))
      have hcx := Cn.cellss_get hxx
      have hmx := List.mem_of_getElem? hxx
      obtain ⟨⟨ys, yts, yp⟩, hxy⟩ := get_some (l := cs2) (i := i) (by first | omega | (simp at *; omega))
      have hcy := Cn.cellss_get hxy
      have hmy := List.mem_of_getElem? hxy
      refine c_boold 71 (¬ (xs = ys ∧ xts = yts)) tmix rfl ?_ _ _ rfl ?_
      · skip
        refine DOps.st 43 rfl rfl (op_fieldAddr_c rfl tf_130_2 rfl rfl ⟨rfl, rfl⟩) ?_
        refine DOps.st 44 rfl rfl (op_load_c1 rfl ta_128 rfl rfl ⟨rfl, rfl⟩) ?_
        refine DOps.st 45 rfl rfl (op_move rfl rfl ⟨rfl, rfl⟩) ?_
        refine DOps.st 46 rfl rfl (op_index rfl te_128 rfl (.seq _ _) rfl rfl (by assumption) ⟨rfl, rfl⟩) ?_
        first | (refine DOps.st 47 rfl rfl (op_fieldAddr_m rfl tf_148_0 rfl ⟨rfl, rfl⟩) ?_) | (refine DOps.st 47 rfl rfl (op_fieldAddr_c rfl tf_148_0 rfl rfl ⟨rfl, rfl⟩) ?_)
        first | (refine DOps.st 48 rfl rfl (op_load_m1 (i := 0) rfl ta_9 rfl rfl rfl ⟨rfl, rfl⟩) ?_) | (refine DOps.st 48 rfl rfl (op_load_m1 (i := 1) rfl ta_9 rfl rfl rfl ⟨rfl, rfl⟩) ?_) | (refine DOps.st 48 rfl rfl (op_load_m1 (i := 2) rfl ta_9 rfl rfl rfl ⟨rfl, rfl⟩) ?_) | (refine DOps.st 48 rfl rfl (op_load_m1 (i := 3) rfl ta_9 rfl rfl rfl ⟨rfl, rfl⟩) ?_) | (refine DOps.st 48 rfl rfl (op_load_m1 (i := 4) rfl ta_9 rfl rfl rfl ⟨rfl, rfl⟩) ?_) | (refine DOps.st 48 rfl rfl (op_load_m1 (i := 5) rfl ta_9 rfl rfl rfl ⟨rfl, rfl⟩) ?_) | (refine DOps.st 48 rfl rfl (op_load_c1 rfl ta_9 rfl rfl ⟨rfl, rfl⟩) ?_)
        refine DOps.st 49 rfl rfl (op_fieldAddr_c rfl tf_130_2 rfl rfl ⟨rfl, rfl⟩) ?_
        refine DOps.st 50 rfl rfl (op_load_c1 rfl ta_128 rfl rfl ⟨rfl, rfl⟩) ?_
        refine DOps.st 51 rfl rfl (op_move rfl rfl ⟨rfl, rfl⟩) ?_
        refine DOps.st 52 rfl rfl (op_index rfl te_128 rfl (.seq _ _) rfl rfl (by assumption) ⟨rfl, rfl⟩) ?_
        first | (refine DOps.st 53 rfl rfl (op_fieldAddr_m rfl tf_148_0 rfl ⟨rfl, rfl⟩) ?_) | (refine DOps.st 53 rfl rfl (op_fieldAddr_c rfl tf_148_0 rfl rfl ⟨rfl, rfl⟩) ?_)
        first | (refine DOps.st 54 rfl rfl (op_load_m1 (i := 0) rfl ta_9 rfl rfl rfl ⟨rfl, rfl⟩) ?_) | (refine DOps.st 54 rfl rfl (op_load_m1 (i := 1) rfl ta_9 rfl rfl rfl ⟨rfl, rfl⟩) ?_) | (refine DOps.st 54 rfl rfl (op_load_m1 (i := 2) rfl ta_9 rfl rfl rfl ⟨rfl, rfl⟩) ?_) | (refine DOps.st 54 rfl rfl (op_load_m1 (i := 3) rfl ta_9 rfl rfl rfl ⟨rfl, rfl⟩) ?_) | (refine DOps.st 54 rfl rfl (op_load_m1 (i := 4) rfl ta_9 rfl rfl rfl ⟨rfl, rfl⟩) ?_) | (refine DOps.st 54 rfl rfl (op_load_m1 (i := 5) rfl ta_9 rfl rfl rfl ⟨rfl, rfl⟩) ?_) | (refine DOps.st 54 rfl rfl (op_load_c1 rfl ta_9 rfl rfl ⟨rfl, rfl⟩) ?_)
        refine DOps.cm 55 rfl rfl (fun _ q => op_sneq rfl rfl rfl q) ?_; intro c55 h55
        refine DOps.st 56 rfl rfl (op_move rfl rfl ⟨rfl, rfl⟩) ?_
        rcases bool_split h55 with ⟨rfl, g55⟩ | ⟨rfl, g55⟩
        · skip
          refine DOps.gt 57 rfl rfl rfl rfl (op_fieldAddr_c rfl tf_130_2 rfl rfl ⟨rfl, rfl⟩) ?_
          refine DOps.gt 58 rfl rfl rfl rfl (op_load_c1 rfl ta_128 rfl rfl ⟨rfl, rfl⟩) ?_
          refine DOps.gt 59 rfl rfl rfl rfl (op_move rfl rfl ⟨rfl, rfl⟩) ?_
          refine DOps.gt 60 rfl rfl rfl rfl (op_index rfl te_128 rfl (.seq _ _) rfl rfl (by assumption) ⟨rfl, rfl⟩) ?_
          first | (refine DOps.gt 61 rfl rfl rfl rfl (op_fieldAddr_m rfl tf_148_1 rfl ⟨rfl, rfl⟩) ?_) | (refine DOps.gt 61 rfl rfl rfl rfl (op_fieldAddr_c rfl tf_148_1 rfl rfl ⟨rfl, rfl⟩) ?_)
          first | (refine DOps.gt 62 rfl rfl rfl rfl (op_load_m1 (i := 0) rfl ta_22 rfl rfl rfl ⟨rfl, rfl⟩) ?_) | (refine DOps.gt 62 rfl rfl rfl rfl (op_load_m1 (i := 1) rfl ta_22 rfl rfl rfl ⟨rfl, rfl⟩) ?_) | (refine DOps.gt 62 rfl rfl rfl rfl (op_load_m1 (i := 2) rfl ta_22 rfl rfl rfl ⟨rfl, rfl⟩) ?_) | (refine DOps.gt 62 rfl rfl rfl rfl (op_load_m1 (i := 3) rfl ta_22 rfl rfl rfl ⟨rfl, rfl⟩) ?_) | (refine DOps.gt 62 rfl rfl rfl rfl (op_load_m1 (i := 4) rfl ta_22 rfl rfl rfl ⟨rfl, rfl⟩) ?_) | (refine DOps.gt 62 rfl rfl rfl rfl (op_load_m1 (i := 5) rfl ta_22 rfl rfl rfl ⟨rfl, rfl⟩) ?_) | (refine DOps.gt 62 rfl rfl rfl rfl (op_load_c1 rfl ta_22 rfl rfl ⟨rfl, rfl⟩) ?_)
          refine DOps.gt 63 rfl rfl rfl rfl (op_fieldAddr_c rfl tf_130_2 rfl rfl ⟨rfl, rfl⟩) ?_
          refine DOps.gt 64 rfl rfl rfl rfl (op_load_c1 rfl ta_128 rfl rfl ⟨rfl, rfl⟩) ?_
          refine DOps.gt 65 rfl rfl rfl rfl (op_move rfl rfl ⟨rfl, rfl⟩) ?_
          refine DOps.gt 66 rfl rfl rfl rfl (op_index rfl te_128 rfl (.seq _ _) rfl rfl (by assumption) ⟨rfl, rfl⟩) ?_
          first | (refine DOps.gt 67 rfl rfl rfl rfl (op_fieldAddr_m rfl tf_148_1 rfl ⟨rfl, rfl⟩) ?_) | (refine DOps.gt 67 rfl rfl rfl rfl (op_fieldAddr_c rfl tf_148_1 rfl rfl ⟨rfl, rfl⟩) ?_)
          first | (refine DOps.gt 68 rfl rfl rfl rfl (op_load_m1 (i := 0) rfl ta_22 rfl rfl rfl ⟨rfl, rfl⟩) ?_) | (refine DOps.gt 68 rfl rfl rfl rfl (op_load_m1 (i := 1) rfl ta_22 rfl rfl rfl ⟨rfl, rfl⟩) ?_) | (refine DOps.gt 68 rfl rfl rfl rfl (op_load_m1 (i := 2) rfl ta_22 rfl rfl rfl ⟨rfl, rfl⟩) ?_) | (refine DOps.gt 68 rfl rfl rfl rfl (op_load_m1 (i := 3) rfl ta_22 rfl rfl rfl ⟨rfl, rfl⟩) ?_) | (refine DOps.gt 68 rfl rfl rfl rfl (op_load_m1 (i := 4) rfl ta_22 rfl rfl rfl ⟨rfl, rfl⟩) ?_) | (refine DOps.gt 68 rfl rfl rfl rfl (op_load_m1 (i := 5) rfl ta_22 rfl rfl rfl ⟨rfl, rfl⟩) ?_) | (refine DOps.gt 68 rfl rfl rfl rfl (op_load_c1 rfl ta_22 rfl rfl ⟨rfl, rfl⟩) ?_)
          refine DOps.gtc 69 rfl rfl rfl rfl (fun _ q => op_callb (xs := [.tmp 62, .tmp 68]) rfl rfl (SameTypes_c xts yts) (by first | exact Les.refl _ | (repeat' (first | exact Les.refl _ | refine Les.cons ?_ ?_ | exact Le.refl _ | exact Le.own _ _ _ | exact Le.nil _ | refine Le.agg ?_))) q) ?_; intro c69 h69
          refine DOps.gtc 70 rfl rfl rfl rfl (fun _ q => op_notc rfl rfl q) ?_; intro c70 h70
          try replace h70 := nott h70 h69
          refine DOps.st 71 rfl rfl (op_pick rfl rfl rfl ⟨rfl, rfl⟩) ?_
          show BoolQ _ _ _ _ _ _
          refine BoolQ.mk rfl ?_ (by repeat' (first | exact SLe.wo _ _ | exact SLe.refl _ | refine SLe.fresh rfl ?_)) (by first | exact MLe.none _ | exact MLe.refl _ | (repeat' (first | exact MLe.nil | exact MLe.refl _ | refine MLe.cons _ ?_ | refine MLe.drop _ ?_)))
          simp_all
        · skip
          refine DOps.gf 57 rfl rfl rfl rfl ?_
          refine DOps.gf 58 rfl rfl rfl rfl ?_
          refine DOps.gf 59 rfl rfl rfl rfl ?_
          refine DOps.gf 60 rfl rfl rfl rfl ?_
          refine DOps.gf 61 rfl rfl rfl rfl ?_
          refine DOps.gf 62 rfl rfl rfl rfl ?_
          refine DOps.gf 63 rfl rfl rfl rfl ?_
          refine DOps.gf 64 rfl rfl rfl rfl ?_
          refine DOps.gf 65 rfl rfl rfl rfl ?_
          refine DOps.gf 66 rfl rfl rfl rfl ?_
          refine DOps.gf 67 rfl rfl rfl rfl ?_
          refine DOps.gf 68 rfl rfl rfl rfl ?_
          refine DOps.gf 69 rfl rfl rfl rfl ?_
          refine DOps.gf 70 rfl rfl rfl rfl ?_
          refine DOps.st 71 rfl rfl (op_pick rfl rfl rfl ⟨rfl, rfl⟩) ?_
          show BoolQ _ _ _ _ _ _
          refine BoolQ.mk rfl ?_ (by repeat' (first | exact SLe.wo _ _ | exact SLe.refl _ | refine SLe.fresh rfl ?_)) (by first | exact MLe.none _ | exact MLe.refl _ | (repeat' (first | exact MLe.nil | exact MLe.refl _ | refine MLe.cons _ ?_ | refine MLe.drop _ ?_)))
          simp_all
      intro c71 h71
      refine go_code ?_
      rcases bool_split h71 with ⟨rfl, g71⟩ | ⟨rfl, g71⟩
      · refine c_cond_f rfl ?_
        refine c_skip ?_
        refine go_blk ?_
        refine go_code ?_
        refine c_region ?_
        refine AOps.st 41 rfl rfl rfl (op_move rfl rfl ?_)
        refine AOps.st 42 rfl rfl rfl (op_add rfl rfl rfl (IntWalk.i64_in _ (by omega)) ?_)
        refine AOps.st 5 rfl rfl rfl (op_assign rfl rfl ?_)
        refine AOps.nil ?_
        refine go_lp ?_
        exact ⟨i + 1, ⟨by omega, upto_map Cn.key hu hxx hxy (by simpa [Cn.key, Cn.s, Cn.ts] using Classical.not_not.1 g71)⟩, by simp; omega, (by repeat' (first | exact SLe.nil _ | refine SLe.cons rfl ?_ ?_ | exact Le.refl _ | exact Le.own _ _ _ | exact Le.nil _)), (by first | exact MLe.none _ | exact MLe.refl _ | (repeat' (first | exact MLe.nil | exact MLe.refl _ | refine MLe.cons _ ?_ | refine MLe.drop _ ?_)))⟩
      · refine c_cond_t rfl ?_
        refine c_seq ?_
        refine c_region ?_
        refine AOps.st 4 rfl rfl rfl (op_assign rfl rfl ?_)
        refine AOps.nil ?_
        refine go_code ?_
        refine c_ret ?_
        exact out_tmp rfl rfl (Le.refl _) (by first | exact MLe.none _ | exact MLe.refl _ | (repeat' (first | exact MLe.nil | exact MLe.refl _ | refine MLe.cons _ ?_ | refine MLe.drop _ ?_))) ⟨⟨_, iff_f (fun e => map_ne Cn.key hxx hxy (fun q => g71 (by simpa [Cn.key, Cn.s, Cn.ts] using q)) e.2.2.1), rfl⟩, rfl⟩
  · refine c_cond_t rfl ?_
    refine c_seq ?_
    refine c_region ?_
    refine AOps.st 4 rfl rfl rfl (op_assign rfl rfl ?_)
    refine AOps.nil ?_
    refine go_code ?_
    refine c_ret ?_
    exact out_tmp rfl rfl (Le.refl _) (by first | exact MLe.none _ | exact MLe.refl _ | (repeat' (first | exact MLe.nil | exact MLe.refl _ | refine MLe.cons _ ?_ | refine MLe.drop _ ?_))) ⟨⟨_, iff_f (fun ⟨e1, e2, e3, e4⟩ => g35 ⟨e1, e2, e4, by simpa using congrArg List.length e3⟩), rfl⟩, rfl⟩
set_option maxHeartbeats 4000000 in
set_option maxRecDepth 100000 in
theorem rSameClass_c (a b : Cl) : BCall Try.prog 106 [.agg a.cells, .agg b.cells] (a.key = b.key) := by
  obtain ⟨s1, v1, su1, ms1, ds1, p1⟩ := a
  obtain ⟨s2, v2, su2, ms2, ds2, p2⟩ := b
  have hk : ((Cl.mk s1 v1 su1 ms1 ds1 p1).key = (Cl.mk s2 v2 su2 ms2 ds2 p2).key) = (s1 = s2 ∧ v1 = v2 ∧ su1 = su2 ∧ ms1.map Me.key = ms2.map Me.key ∧ ds1.map Bi.bare = ds2.map Bi.bare) := by simp only [Cl.key, Cl.s, Cl.v, Cl.su, Cl.ms, Cl.ds, Prod.mk.injEq]
  have hl1 := Me.cellss_len ms1
  have hl2 := Me.cellss_len ms2
  rw [hk]
  refine ACall.enter Try.func106 rfl (by kernel_rfl) rfl (Nat.le_of_ble_eq_true rfl) ?_
  refine c_start ?_
  refine c_lena (t := 0) (j := 3) rfl rfl (.seq _ _) (fun hmax => ?_)
  refine c_seq ?_
  refine c_region ?_
  refine AOps.st 2 rfl rfl rfl (op_boxc (cs' := [_, _, _, _, _, _]) rfl rfl rfl rfl ?_)
  refine AOps.st 3 rfl rfl rfl (op_boxc (cs' := [_, _, _, _, _, _]) rfl rfl rfl rfl ?_)
  refine AOps.st 4 rfl rfl rfl (op_assign rfl rfl ?_)
  refine AOps.nil ?_
  refine go_code ?_
  refine c_seq ?_
  refine c_seq ?_
  refine c_bool 34 (¬ (s1 = s2 ∧ v1 = v2 ∧ su1 = su2 ∧ ms1.length = ms2.length)) ?_ _ _ rfl ?_
  · skip
    refine AOps.st 6 rfl rfl rfl (op_fieldAddr_c rfl tf_124_0 rfl rfl ?_)
    refine AOps.st 7 rfl rfl rfl (op_load_c1 rfl ta_9 rfl rfl ?_)
    refine AOps.st 8 rfl rfl rfl (op_fieldAddr_c rfl tf_124_0 rfl rfl ?_)
    refine AOps.st 9 rfl rfl rfl (op_load_c1 rfl ta_9 rfl rfl ?_)
    refine AOps.st 10 rfl rfl rfl (op_sneq rfl rfl rfl ?_); intro c10 h10
    refine AOps.st 11 rfl rfl rfl (op_move rfl rfl ?_)
    rcases bool_split h10 with ⟨rfl, g10⟩ | ⟨rfl, g10⟩
    · skip
      refine AOps.gt 12 rfl rfl rfl rfl rfl (op_fieldAddr_c rfl tf_124_1 rfl rfl ?_)
      refine AOps.gt 13 rfl rfl rfl rfl rfl (op_load_c1 rfl ta_9 rfl rfl ?_)
      refine AOps.gt 14 rfl rfl rfl rfl rfl (op_fieldAddr_c rfl tf_124_1 rfl rfl ?_)
      refine AOps.gt 15 rfl rfl rfl rfl rfl (op_load_c1 rfl ta_9 rfl rfl ?_)
      refine AOps.gt 16 rfl rfl rfl rfl rfl (op_sneq rfl rfl rfl ?_); intro c16 h16
      refine AOps.st 17 rfl rfl rfl (op_pick rfl rfl rfl ?_)
      refine AOps.st 18 rfl rfl rfl (op_move rfl rfl ?_)
      rcases bool_split h16 with ⟨rfl, g16⟩ | ⟨rfl, g16⟩
      · skip
        refine AOps.gt 19 rfl rfl rfl rfl rfl (op_fieldAddr_c rfl tf_124_2 rfl rfl ?_)
        refine AOps.gt 20 rfl rfl rfl rfl rfl (op_load_c1 rfl ta_27 rfl rfl ?_)
        refine AOps.gt 21 rfl rfl rfl rfl rfl (op_fieldAddr_c rfl tf_124_2 rfl rfl ?_)
        refine AOps.gt 22 rfl rfl rfl rfl rfl (op_load_c1 rfl ta_27 rfl rfl ?_)
        refine AOps.gt 23 rfl rfl rfl rfl rfl (op_callb (xs := [.tmp 20, .tmp 22]) rfl rfl (Texts_c su1 su2) (by first | exact Les.refl _ | (repeat' (first | exact Les.refl _ | refine Les.cons ?_ ?_ | exact Le.refl _ | exact Le.own _ _ _ | exact Le.nil _ | refine Le.agg ?_))) ?_); intro c23 h23
        refine AOps.gt 24 rfl rfl rfl rfl rfl (op_notc rfl rfl ?_); intro c24 h24
        try replace h24 := nott h24 h23
        refine AOps.st 25 rfl rfl rfl (op_pick rfl rfl rfl ?_)
        refine AOps.st 26 rfl rfl rfl (op_move rfl rfl ?_)
        rcases bool_split h24 with ⟨rfl, g24⟩ | ⟨rfl, g24⟩
        · skip
          refine AOps.gt 27 rfl rfl rfl rfl rfl (op_fieldAddr_c rfl tf_124_3 rfl rfl ?_)
          refine AOps.gt 28 rfl rfl rfl rfl rfl (op_load_c1 rfl ta_122 rfl rfl ?_)
          refine AOps.gt 29 rfl rfl rfl rfl rfl (op_len rfl tu_122 rfl (.seq _ _) (fun n29 => ?_))
          refine AOps.gt 30 rfl rfl rfl rfl rfl (op_fieldAddr_c rfl tf_124_3 rfl rfl ?_)
          refine AOps.gt 31 rfl rfl rfl rfl rfl (op_load_c1 rfl ta_122 rfl rfl ?_)
          refine AOps.gt 32 rfl rfl rfl rfl rfl (op_len rfl tu_122 rfl (.seq _ _) (fun n32 => ?_))
          refine AOps.gt 33 rfl rfl rfl rfl rfl (op_neq rfl rfl rfl ?_); intro c33 h33
          refine AOps.st 34 rfl rfl rfl (op_pick rfl rfl rfl ?_)
          refine AOps.nil ?_
          refine BoolQ.mk rfl ?_ (by repeat' (first | exact SLe.wo _ _ | exact SLe.refl _ | refine SLe.fresh rfl ?_)) (by first | exact MLe.none _ | exact MLe.refl _ | (repeat' (first | exact MLe.nil | exact MLe.refl _ | refine MLe.cons _ ?_ | refine MLe.drop _ ?_)))
          first | (simp_all; done) | (simp_all; omega)
        · skip
          refine AOps.gf 27 rfl rfl rfl rfl rfl ?_
          refine AOps.gf 28 rfl rfl rfl rfl rfl ?_
          refine AOps.gf 29 rfl rfl rfl rfl rfl ?_
          refine AOps.gf 30 rfl rfl rfl rfl rfl ?_
          refine AOps.gf 31 rfl rfl rfl rfl rfl ?_
          refine AOps.gf 32 rfl rfl rfl rfl rfl ?_
          refine AOps.gf 33 rfl rfl rfl rfl rfl ?_
          refine AOps.st 34 rfl rfl rfl (op_pick rfl rfl rfl ?_)
          refine AOps.nil ?_
          refine BoolQ.mk rfl ?_ (by repeat' (first | exact SLe.wo _ _ | exact SLe.refl _ | refine SLe.fresh rfl ?_)) (by first | exact MLe.none _ | exact MLe.refl _ | (repeat' (first | exact MLe.nil | exact MLe.refl _ | refine MLe.cons _ ?_ | refine MLe.drop _ ?_)))
          simp_all; done
      · skip
        refine AOps.gf 19 rfl rfl rfl rfl rfl ?_
        refine AOps.gf 20 rfl rfl rfl rfl rfl ?_
        refine AOps.gf 21 rfl rfl rfl rfl rfl ?_
        refine AOps.gf 22 rfl rfl rfl rfl rfl ?_
        refine AOps.gf 23 rfl rfl rfl rfl rfl ?_
        refine AOps.gf 24 rfl rfl rfl rfl rfl ?_
        refine AOps.st 25 rfl rfl rfl (op_pick rfl rfl rfl ?_)
        refine AOps.st 26 rfl rfl rfl (op_move rfl rfl ?_)
        refine AOps.gf 27 rfl rfl rfl rfl rfl ?_
        refine AOps.gf 28 rfl rfl rfl rfl rfl ?_
        refine AOps.gf 29 rfl rfl rfl rfl rfl ?_
        refine AOps.gf 30 rfl rfl rfl rfl rfl ?_
        refine AOps.gf 31 rfl rfl rfl rfl rfl ?_
        refine AOps.gf 32 rfl rfl rfl rfl rfl ?_
        refine AOps.gf 33 rfl rfl rfl rfl rfl ?_
        refine AOps.st 34 rfl rfl rfl (op_pick rfl rfl rfl ?_)
        refine AOps.nil ?_
        refine BoolQ.mk rfl ?_ (by repeat' (first | exact SLe.wo _ _ | exact SLe.refl _ | refine SLe.fresh rfl ?_)) (by first | exact MLe.none _ | exact MLe.refl _ | (repeat' (first | exact MLe.nil | exact MLe.refl _ | refine MLe.cons _ ?_ | refine MLe.drop _ ?_)))
        simp_all; done
    · skip
      refine AOps.gf 12 rfl rfl rfl rfl rfl ?_
      refine AOps.gf 13 rfl rfl rfl rfl rfl ?_
      refine AOps.gf 14 rfl rfl rfl rfl rfl ?_
      refine AOps.gf 15 rfl rfl rfl rfl rfl ?_
      refine AOps.gf 16 rfl rfl rfl rfl rfl ?_
      refine AOps.st 17 rfl rfl rfl (op_pick rfl rfl rfl ?_)
      refine AOps.st 18 rfl rfl rfl (op_move rfl rfl ?_)
      refine AOps.gf 19 rfl rfl rfl rfl rfl ?_
      refine AOps.gf 20 rfl rfl rfl rfl rfl ?_
      refine AOps.gf 21 rfl rfl rfl rfl rfl ?_
      refine AOps.gf 22 rfl rfl rfl rfl rfl ?_
      refine AOps.gf 23 rfl rfl rfl rfl rfl ?_
      refine AOps.gf 24 rfl rfl rfl rfl rfl ?_
      refine AOps.st 25 rfl rfl rfl (op_pick rfl rfl rfl ?_)
      refine AOps.st 26 rfl rfl rfl (op_move rfl rfl ?_)
      refine AOps.gf 27 rfl rfl rfl rfl rfl ?_
      refine AOps.gf 28 rfl rfl rfl rfl rfl ?_
      refine AOps.gf 29 rfl rfl rfl rfl rfl ?_
      refine AOps.gf 30 rfl rfl rfl rfl rfl ?_
      refine AOps.gf 31 rfl rfl rfl rfl rfl ?_
      refine AOps.gf 32 rfl rfl rfl rfl rfl ?_
      refine AOps.gf 33 rfl rfl rfl rfl rfl ?_
      refine AOps.st 34 rfl rfl rfl (op_pick rfl rfl rfl ?_)
      refine AOps.nil ?_
      refine BoolQ.mk rfl ?_ (by repeat' (first | exact SLe.wo _ _ | exact SLe.refl _ | refine SLe.fresh rfl ?_)) (by first | exact MLe.none _ | exact MLe.refl _ | (repeat' (first | exact MLe.nil | exact MLe.refl _ | refine MLe.cons _ ?_ | refine MLe.drop _ ?_)))
      simp_all; done
  intro c34 h34
  refine go_code ?_
  rcases bool_split h34 with ⟨rfl, g34⟩ | ⟨rfl, g34⟩
  · refine c_cond_f rfl ?_
    refine c_skip ?_
    refine go_code ?_
    refine c_seq ?_
    refine c_seq ?_
    obtain ⟨e1, e2, e3, e4⟩ := Classical.not_not.1 g34
    refine c_region ?_
    refine AOps.st 5 rfl rfl rfl (op_assign rfl rfl ?_)
    refine AOps.nil ?_
    refine go_code ?_
    refine c_block ?_
    apply c_loopkm [0, 1, 4, 5, 6, 7, 8, 9, 10, 11, 12, 13, 14, 15, 16, 17, 18, 19, 20, 21, 22, 23, 24, 25, 26, 27, 28, 29, 30, 31, 32, 33, 34, 35, 36, 37, 38, 39, 40, 41, 42, 43, 44, 45, 46, 47, 48, 49, 50, 51, 52, 53, 54, 55, 56, 57, 58, 59, 60, 61, 62, 63, 64, 65, 66, 67, 68, 69, 70] (σ := Nat) (fun zz => match zz with | i => [(5, .val (.int .i64 i))]) (fun zz => match zz with | i => i ≤ ms1.length ∧ Upto (ms1.map Me.key) (ms2.map Me.key) i) (fun zz => match zz with | i => ms1.length - i) (0)
    · repeat' (first | exact Drops.nil | apply Drops.keep rfl | apply Drops.skip rfl)
    · exact ⟨by omega, Upto.zero _ _⟩
    · exact (by repeat' (first | exact SLe.nil _ | refine SLe.cons rfl ?_ ?_ | exact Le.refl _ | exact Le.own _ _ _ | exact Le.nil _))
    rintro i hI
    try dsimp only [List.cons_append, List.nil_append] at hI ⊢
    obtain ⟨hi, hu⟩ := hI
    refine c_seq ?_
    refine c_seq ?_
    refine c_region ?_
    refine AOps.st 35 rfl rfl rfl (op_move rfl rfl ?_)
    refine AOps.st 36 rfl rfl rfl (op_fieldAddr_c rfl tf_124_3 rfl rfl ?_)
    refine AOps.st 37 rfl rfl rfl (op_load_c1 rfl ta_122 rfl rfl ?_)
    refine AOps.st 38 rfl rfl rfl (op_len rfl tu_122 rfl (.seq _ _) (fun n38 => ?_))
    refine AOps.st 39 rfl rfl rfl (op_lss rfl rfl rfl ?_); intro c39 h39
    refine AOps.nil ?_
    refine go_code ?_
    rcases bool_split h39 with ⟨rfl, g39⟩ | ⟨rfl, g39⟩
    · refine c_cond_f rfl ?_
      refine c_exit ?_
      refine x_code ?_
      refine x_lp ?_
      refine x_here ?_
      refine go_code ?_
      refine c_seq ?_
      have hme := hu.eq (by simp; omega) (by simp; omega)
      refine c_region ?_
      refine AOps.st 71 rfl rfl rfl (op_fieldAddr_c rfl tf_124_4 rfl rfl ?_)
      refine AOps.st 72 rfl rfl rfl (op_load_c1 rfl ta_58 rfl rfl ?_)
      refine AOps.st 73 rfl rfl rfl (op_fieldAddr_c rfl tf_124_4 rfl rfl ?_)
      refine AOps.st 74 rfl rfl rfl (op_load_c1 rfl ta_58 rfl rfl ?_)
      refine AOps.st 75 rfl rfl rfl (op_callb (xs := [.tmp 72, .tmp 74]) rfl rfl (SameBinds_c ds1 ds2) (by first | exact Les.refl _ | (repeat' (first | exact Les.refl _ | refine Les.cons ?_ ?_ | exact Le.refl _ | exact Le.own _ _ _ | exact Le.nil _ | refine Le.agg ?_))) ?_); intro c75 h75
      refine AOps.st 4 rfl rfl rfl (op_assign rfl rfl ?_)
      refine AOps.nil ?_
      refine go_code ?_
      refine c_ret ?_
      exact out_tmp rfl rfl (Le.refl _) (by first | exact MLe.none _ | exact MLe.refl _ | (repeat' (first | exact MLe.nil | exact MLe.refl _ | refine MLe.cons _ ?_ | refine MLe.drop _ ?_))) ⟨⟨_, h75.trans ⟨fun q => ⟨e1, e2, e3, hme, q⟩, fun q => q.2.2.2.2⟩, rfl⟩, rfl⟩
    · refine c_cond_t rfl ?_
      refine c_skip ?_
      refine go_code ?_
      refine c_seq ?_
      refine c_block ?_
      refine c_seq ?_
      obtain ⟨⟨xs, ⟨xtk, xts, xtn, xtl⟩, xp⟩, hxx⟩ := get_some (l := ms1) (i := i) (by first | omega | (simp at *; omega))
      have hcx := Me.cellss_get hxx
      have hmx := List.mem_of_getElem? hxx
      obtain ⟨⟨ys, ⟨ytk, yts, ytn, ytl⟩, yp⟩, hxy⟩ := get_some (l := ms2) (i := i) (by first | omega | (simp at *; omega))
      have hcy := Me.cellss_get hxy
      have hmy := List.mem_of_getElem? hxy
      refine c_boold 70 (¬ (xs = ys ∧ (⟨xtk, xts, xtn, xtl⟩ : Ty) = ⟨ytk, yts, ytn, ytl⟩)) tmix rfl ?_ _ _ rfl ?_
      · skip
        refine DOps.st 42 rfl rfl (op_fieldAddr_c rfl tf_124_3 rfl rfl ⟨rfl, rfl⟩) ?_
        refine DOps.st 43 rfl rfl (op_load_c1 rfl ta_122 rfl rfl ⟨rfl, rfl⟩) ?_
        refine DOps.st 44 rfl rfl (op_move rfl rfl ⟨rfl, rfl⟩) ?_
        refine DOps.st 45 rfl rfl (op_index rfl te_122 rfl (.seq _ _) rfl rfl (by assumption) ⟨rfl, rfl⟩) ?_
        first | (refine DOps.st 46 rfl rfl (op_fieldAddr_m rfl tf_152_0 rfl ⟨rfl, rfl⟩) ?_) | (refine DOps.st 46 rfl rfl (op_fieldAddr_c rfl tf_152_0 rfl rfl ⟨rfl, rfl⟩) ?_)
        first | (refine DOps.st 47 rfl rfl (op_load_m1 (i := 0) rfl ta_9 rfl rfl rfl ⟨rfl, rfl⟩) ?_) | (refine DOps.st 47 rfl rfl (op_load_m1 (i := 1) rfl ta_9 rfl rfl rfl ⟨rfl, rfl⟩) ?_) | (refine DOps.st 47 rfl rfl (op_load_m1 (i := 2) rfl ta_9 rfl rfl rfl ⟨rfl, rfl⟩) ?_) | (refine DOps.st 47 rfl rfl (op_load_m1 (i := 3) rfl ta_9 rfl rfl rfl ⟨rfl, rfl⟩) ?_) | (refine DOps.st 47 rfl rfl (op_load_m1 (i := 4) rfl ta_9 rfl rfl rfl ⟨rfl, rfl⟩) ?_) | (refine DOps.st 47 rfl rfl (op_load_m1 (i := 5) rfl ta_9 rfl rfl rfl ⟨rfl, rfl⟩) ?_) | (refine DOps.st 47 rfl rfl (op_load_c1 rfl ta_9 rfl rfl ⟨rfl, rfl⟩) ?_)
        refine DOps.st 48 rfl rfl (op_fieldAddr_c rfl tf_124_3 rfl rfl ⟨rfl, rfl⟩) ?_
        refine DOps.st 49 rfl rfl (op_load_c1 rfl ta_122 rfl rfl ⟨rfl, rfl⟩) ?_
        refine DOps.st 50 rfl rfl (op_move rfl rfl ⟨rfl, rfl⟩) ?_
        refine DOps.st 51 rfl rfl (op_index rfl te_122 rfl (.seq _ _) rfl rfl (by assumption) ⟨rfl, rfl⟩) ?_
        first | (refine DOps.st 52 rfl rfl (op_fieldAddr_m rfl tf_152_0 rfl ⟨rfl, rfl⟩) ?_) | (refine DOps.st 52 rfl rfl (op_fieldAddr_c rfl tf_152_0 rfl rfl ⟨rfl, rfl⟩) ?_)
        first | (refine DOps.st 53 rfl rfl (op_load_m1 (i := 0) rfl ta_9 rfl rfl rfl ⟨rfl, rfl⟩) ?_) | (refine DOps.st 53 rfl rfl (op_load_m1 (i := 1) rfl ta_9 rfl rfl rfl ⟨rfl, rfl⟩) ?_) | (refine DOps.st 53 rfl rfl (op_load_m1 (i := 2) rfl ta_9 rfl rfl rfl ⟨rfl, rfl⟩) ?_) | (refine DOps.st 53 rfl rfl (op_load_m1 (i := 3) rfl ta_9 rfl rfl rfl ⟨rfl, rfl⟩) ?_) | (refine DOps.st 53 rfl rfl (op_load_m1 (i := 4) rfl ta_9 rfl rfl rfl ⟨rfl, rfl⟩) ?_) | (refine DOps.st 53 rfl rfl (op_load_m1 (i := 5) rfl ta_9 rfl rfl rfl ⟨rfl, rfl⟩) ?_) | (refine DOps.st 53 rfl rfl (op_load_c1 rfl ta_9 rfl rfl ⟨rfl, rfl⟩) ?_)
        refine DOps.cm 54 rfl rfl (fun _ q => op_sneq rfl rfl rfl q) ?_; intro c54 h54
        refine DOps.st 55 rfl rfl (op_move rfl rfl ⟨rfl, rfl⟩) ?_
        rcases bool_split h54 with ⟨rfl, g54⟩ | ⟨rfl, g54⟩
        · skip
          refine DOps.gt 56 rfl rfl rfl rfl (op_fieldAddr_c rfl tf_124_3 rfl rfl ⟨rfl, rfl⟩) ?_
          refine DOps.gt 57 rfl rfl rfl rfl (op_load_c1 rfl ta_122 rfl rfl ⟨rfl, rfl⟩) ?_
          refine DOps.gt 58 rfl rfl rfl rfl (op_move rfl rfl ⟨rfl, rfl⟩) ?_
          refine DOps.gt 59 rfl rfl rfl rfl (op_index rfl te_122 rfl (.seq _ _) rfl rfl (by assumption) ⟨rfl, rfl⟩) ?_
          first | (refine DOps.gt 60 rfl rfl rfl rfl (op_fieldAddr_m rfl tf_152_1 rfl ⟨rfl, rfl⟩) ?_) | (refine DOps.gt 60 rfl rfl rfl rfl (op_fieldAddr_c rfl tf_152_1 rfl rfl ⟨rfl, rfl⟩) ?_)
          first | (refine DOps.gt 61 rfl rfl rfl rfl (op_load_m (cs' := [_, _, _, _]) (i := 0) rfl ta_24 rfl rfl rfl rfl ⟨rfl, rfl⟩) ?_) | (refine DOps.gt 61 rfl rfl rfl rfl (op_load_m (cs' := [_, _, _, _]) (i := 1) rfl ta_24 rfl rfl rfl rfl ⟨rfl, rfl⟩) ?_) | (refine DOps.gt 61 rfl rfl rfl rfl (op_load_m (cs' := [_, _, _, _]) (i := 2) rfl ta_24 rfl rfl rfl rfl ⟨rfl, rfl⟩) ?_) | (refine DOps.gt 61 rfl rfl rfl rfl (op_load_m (cs' := [_, _, _, _]) (i := 3) rfl ta_24 rfl rfl rfl rfl ⟨rfl, rfl⟩) ?_) | (refine DOps.gt 61 rfl rfl rfl rfl (op_load_m (cs' := [_, _, _, _]) (i := 4) rfl ta_24 rfl rfl rfl rfl ⟨rfl, rfl⟩) ?_) | (refine DOps.gt 61 rfl rfl rfl rfl (op_load_m (cs' := [_, _, _, _]) (i := 5) rfl ta_24 rfl rfl rfl rfl ⟨rfl, rfl⟩) ?_) | (refine DOps.gt 61 rfl rfl rfl rfl (op_load_c (cs' := [_, _, _, _]) rfl ta_24 rfl rfl rfl ⟨rfl, rfl⟩) ?_)
          refine DOps.gt 62 rfl rfl rfl rfl (op_fieldAddr_c rfl tf_124_3 rfl rfl ⟨rfl, rfl⟩) ?_
          refine DOps.gt 63 rfl rfl rfl rfl (op_load_c1 rfl ta_122 rfl rfl ⟨rfl, rfl⟩) ?_
          refine DOps.gt 64 rfl rfl rfl rfl (op_move rfl rfl ⟨rfl, rfl⟩) ?_
          refine DOps.gt 65 rfl rfl rfl rfl (op_index rfl te_122 rfl (.seq _ _) rfl rfl (by assumption) ⟨rfl, rfl⟩) ?_
          first | (refine DOps.gt 66 rfl rfl rfl rfl (op_fieldAddr_m rfl tf_152_1 rfl ⟨rfl, rfl⟩) ?_) | (refine DOps.gt 66 rfl rfl rfl rfl (op_fieldAddr_c rfl tf_152_1 rfl rfl ⟨rfl, rfl⟩) ?_)
          first | (refine DOps.gt 67 rfl rfl rfl rfl (op_load_m (cs' := [_, _, _, _]) (i := 0) rfl ta_24 rfl rfl rfl rfl ⟨rfl, rfl⟩) ?_) | (refine DOps.gt 67 rfl rfl rfl rfl (op_load_m (cs' := [_, _, _, _]) (i := 1) rfl ta_24 rfl rfl rfl rfl ⟨rfl, rfl⟩) ?_) | (refine DOps.gt 67 rfl rfl rfl rfl (op_load_m (cs' := [_, _, _, _]) (i := 2) rfl ta_24 rfl rfl rfl rfl ⟨rfl, rfl⟩) ?_) | (refine DOps.gt 67 rfl rfl rfl rfl (op_load_m (cs' := [_, _, _, _]) (i := 3) rfl ta_24 rfl rfl rfl rfl ⟨rfl, rfl⟩) ?_) | (refine DOps.gt 67 rfl rfl rfl rfl (op_load_m (cs' := [_, _, _, _]) (i := 4) rfl ta_24 rfl rfl rfl rfl ⟨rfl, rfl⟩) ?_) | (refine DOps.gt 67 rfl rfl rfl rfl (op_load_m (cs' := [_, _, _, _]) (i := 5) rfl ta_24 rfl rfl rfl rfl ⟨rfl, rfl⟩) ?_) | (refine DOps.gt 67 rfl rfl rfl rfl (op_load_c (cs' := [_, _, _, _]) rfl ta_24 rfl rfl rfl ⟨rfl, rfl⟩) ?_)
          refine DOps.gtc 68 rfl rfl rfl rfl (fun _ q => op_callb (xs := [.tmp 61, .tmp 67]) rfl rfl (SameType_c ⟨xtk, xts, xtn, xtl⟩ ⟨ytk, yts, ytn, ytl⟩) (by first | exact Les.refl _ | (repeat' (first | exact Les.refl _ | refine Les.cons ?_ ?_ | exact Le.refl _ | exact Le.own _ _ _ | exact Le.nil _ | refine Le.agg ?_))) q) ?_; intro c68 h68
          refine DOps.gtc 69 rfl rfl rfl rfl (fun _ q => op_notc rfl rfl q) ?_; intro c69 h69
          try replace h69 := nott h69 h68
          refine DOps.st 70 rfl rfl (op_pick rfl rfl rfl ⟨rfl, rfl⟩) ?_
          show BoolQ _ _ _ _ _ _
          refine BoolQ.mk rfl ?_ (by repeat' (first | exact SLe.wo _ _ | exact SLe.refl _ | refine SLe.fresh rfl ?_)) (by first | exact MLe.none _ | exact MLe.refl _ | (repeat' (first | exact MLe.nil | exact MLe.refl _ | refine MLe.cons _ ?_ | refine MLe.drop _ ?_)))
          simp_all
        · skip
          refine DOps.gf 56 rfl rfl rfl rfl ?_
          refine DOps.gf 57 rfl rfl rfl rfl ?_
          refine DOps.gf 58 rfl rfl rfl rfl ?_
          refine DOps.gf 59 rfl rfl rfl rfl ?_
          refine DOps.gf 60 rfl rfl rfl rfl ?_
          refine DOps.gf 61 rfl rfl rfl rfl ?_
          refine DOps.gf 62 rfl rfl rfl rfl ?_
          refine DOps.gf 63 rfl rfl rfl rfl ?_
          refine DOps.gf 64 rfl rfl rfl rfl ?_
          refine DOps.gf 65 rfl rfl rfl rfl ?_
          refine DOps.gf 66 rfl rfl rfl rfl ?_
          refine DOps.gf 67 rfl rfl rfl rfl ?_
          refine DOps.gf 68 rfl rfl rfl rfl ?_
          refine DOps.gf 69 rfl rfl rfl rfl ?_
          refine DOps.st 70 rfl rfl (op_pick rfl rfl rfl ⟨rfl, rfl⟩) ?_
          show BoolQ _ _ _ _ _ _
          refine BoolQ.mk rfl ?_ (by repeat' (first | exact SLe.wo _ _ | exact SLe.refl _ | refine SLe.fresh rfl ?_)) (by first | exact MLe.none _ | exact MLe.refl _ | (repeat' (first | exact MLe.nil | exact MLe.refl _ | refine MLe.cons _ ?_ | refine MLe.drop _ ?_)))
          simp_all
      intro c70 h70
      refine go_code ?_
      rcases bool_split h70 with ⟨rfl, g70⟩ | ⟨rfl, g70⟩
      · refine c_cond_f rfl ?_
        refine c_skip ?_
        refine go_blk ?_
        refine go_code ?_
        refine c_region ?_
        refine AOps.st 40 rfl rfl rfl (op_move rfl rfl ?_)
        refine AOps.st 41 rfl rfl rfl (op_add rfl rfl rfl (IntWalk.i64_in _ (by omega)) ?_)
        refine AOps.st 5 rfl rfl rfl (op_assign rfl rfl ?_)
        refine AOps.nil ?_
        refine go_lp ?_
        exact ⟨i + 1, ⟨by omega, upto_map Me.key hu hxx hxy (by simpa [Me.key, Me.s, Me.t] using Classical.not_not.1 g70)⟩, by simp; omega, (by repeat' (first | exact SLe.nil _ | refine SLe.cons rfl ?_ ?_ | exact Le.refl _ | exact Le.own _ _ _ | exact Le.nil _)), (by first | exact MLe.none _ | exact MLe.refl _ | (repeat' (first | exact MLe.nil | exact MLe.refl _ | refine MLe.cons _ ?_ | refine MLe.drop _ ?_)))⟩
      · refine c_cond_t rfl ?_
        refine c_seq ?_
        refine c_region ?_
        refine AOps.st 4 rfl rfl rfl (op_assign rfl rfl ?_)
        refine AOps.nil ?_
        refine go_code ?_
        refine c_ret ?_
        exact out_tmp rfl rfl (Le.refl _) (by first | exact MLe.none _ | exact MLe.refl _ | (repeat' (first | exact MLe.nil | exact MLe.refl _ | refine MLe.cons _ ?_ | refine MLe.drop _ ?_))) ⟨⟨_, iff_f (fun e => map_ne Me.key hxx hxy (fun q => g70 (by simpa [Me.key, Me.s, Me.t] using q)) e.2.2.2.1), rfl⟩, rfl⟩
  · refine c_cond_t rfl ?_
    refine c_seq ?_
    refine c_region ?_
    refine AOps.st 4 rfl rfl rfl (op_assign rfl rfl ?_)
    refine AOps.nil ?_
    refine go_code ?_
    refine c_ret ?_
    exact out_tmp rfl rfl (Le.refl _) (by first | exact MLe.none _ | exact MLe.refl _ | (repeat' (first | exact MLe.nil | exact MLe.refl _ | refine MLe.cons _ ?_ | refine MLe.drop _ ?_))) ⟨⟨_, iff_f (fun ⟨e1, e2, e3, e4, _⟩ => g34 ⟨e1, e2, e3, by simpa using congrArg List.length e4⟩), rfl⟩, rfl⟩
set_option maxHeartbeats 4000000 in
set_option maxRecDepth 100000 in
theorem rSameInst_c (a b : In) : BCall Try.prog 107 [.agg a.cells, .agg b.cells] (a.key = b.key) := by
  obtain ⟨s1, ⟨k1, t1, n1, l1⟩, cx1, bs1, p1⟩ := a
  obtain ⟨s2, ⟨k2, t2, n2, l2⟩, cx2, bs2, p2⟩ := b
  have hk : ((In.mk s1 ⟨k1, t1, n1, l1⟩ cx1 bs1 p1).key = (In.mk s2 ⟨k2, t2, n2, l2⟩ cx2 bs2 p2).key) = (s1 = s2 ∧ (⟨k1, t1, n1, l1⟩ : Ty) = ⟨k2, t2, n2, l2⟩ ∧ cx1 = cx2 ∧ bs1.map Bi.bare = bs2.map Bi.bare) := by simp only [In.key, In.c, In.hd, In.cx, In.bs, Prod.mk.injEq]
  have hl1 := Pr.cellss_len cx1
  have hl2 := Pr.cellss_len cx2
  rw [hk]
  generalize hT : ((⟨k1, t1, n1, l1⟩ : Ty) = ⟨k2, t2, n2, l2⟩) = T
  have HT := SameType_c ⟨k1, t1, n1, l1⟩ ⟨k2, t2, n2, l2⟩
  rw [hT] at HT
  refine ACall.enter Try.func107 rfl (by kernel_rfl) rfl (Nat.le_of_ble_eq_true rfl) ?_
  refine c_start ?_
  refine c_lena (t := 0) (j := 5) rfl rfl (.seq _ _) (fun hmax => ?_)
  refine c_seq ?_
  refine c_region ?_
  refine AOps.st 2 rfl rfl rfl (op_boxc (cs' := [_, _, _, _, _, _, _, _]) rfl rfl rfl rfl ?_)
  refine AOps.st 3 rfl rfl rfl (op_boxc (cs' := [_, _, _, _, _, _, _, _]) rfl rfl rfl rfl ?_)
  refine AOps.st 4 rfl rfl rfl (op_assign rfl rfl ?_)
  refine AOps.nil ?_
  refine go_code ?_
  refine c_seq ?_
  refine c_seq ?_
  refine c_bool 27 (¬ (s1 = s2 ∧ T ∧ cx1.length = cx2.length)) ?_ _ _ rfl ?_
  · skip
    refine AOps.st 6 rfl rfl rfl (op_fieldAddr_c rfl tf_127_0 rfl rfl ?_)
    refine AOps.st 7 rfl rfl rfl (op_load_c1 rfl ta_9 rfl rfl ?_)
    refine AOps.st 8 rfl rfl rfl (op_fieldAddr_c rfl tf_127_0 rfl rfl ?_)
    refine AOps.st 9 rfl rfl rfl (op_load_c1 rfl ta_9 rfl rfl ?_)
    refine AOps.st 10 rfl rfl rfl (op_sneq rfl rfl rfl ?_); intro c10 h10
    refine AOps.st 11 rfl rfl rfl (op_move rfl rfl ?_)
    rcases bool_split h10 with ⟨rfl, g10⟩ | ⟨rfl, g10⟩
    · skip
      refine AOps.gt 12 rfl rfl rfl rfl rfl (op_fieldAddr_c rfl tf_127_1 rfl rfl ?_)
      refine AOps.gt 13 rfl rfl rfl rfl rfl (op_load_c (cs' := [_, _, _, _]) rfl ta_24 rfl rfl rfl ?_)
      refine AOps.gt 14 rfl rfl rfl rfl rfl (op_fieldAddr_c rfl tf_127_1 rfl rfl ?_)
      refine AOps.gt 15 rfl rfl rfl rfl rfl (op_load_c (cs' := [_, _, _, _]) rfl ta_24 rfl rfl rfl ?_)
      refine AOps.gt 16 rfl rfl rfl rfl rfl (op_callb (xs := [.tmp 13, .tmp 15]) rfl rfl (HT) (by first | exact Les.refl _ | (repeat' (first | exact Les.refl _ | refine Les.cons ?_ ?_ | exact Le.refl _ | exact Le.own _ _ _ | exact Le.nil _ | refine Le.agg ?_))) ?_); intro c16 h16
      refine AOps.gt 17 rfl rfl rfl rfl rfl (op_notc rfl rfl ?_); intro c17 h17
      try replace h17 := nott h17 h16
      refine AOps.st 18 rfl rfl rfl (op_pick rfl rfl rfl ?_)
      refine AOps.st 19 rfl rfl rfl (op_move rfl rfl ?_)
      rcases bool_split h17 with ⟨rfl, g17⟩ | ⟨rfl, g17⟩
      · skip
        refine AOps.gt 20 rfl rfl rfl rfl rfl (op_fieldAddr_c rfl tf_127_2 rfl rfl ?_)
        refine AOps.gt 21 rfl rfl rfl rfl rfl (op_load_c1 rfl ta_125 rfl rfl ?_)
        refine AOps.gt 22 rfl rfl rfl rfl rfl (op_len rfl tu_125 rfl (.seq _ _) (fun n22 => ?_))
        refine AOps.gt 23 rfl rfl rfl rfl rfl (op_fieldAddr_c rfl tf_127_2 rfl rfl ?_)
        refine AOps.gt 24 rfl rfl rfl rfl rfl (op_load_c1 rfl ta_125 rfl rfl ?_)
        refine AOps.gt 25 rfl rfl rfl rfl rfl (op_len rfl tu_125 rfl (.seq _ _) (fun n25 => ?_))
        refine AOps.gt 26 rfl rfl rfl rfl rfl (op_neq rfl rfl rfl ?_); intro c26 h26
        refine AOps.st 27 rfl rfl rfl (op_pick rfl rfl rfl ?_)
        refine AOps.nil ?_
        refine BoolQ.mk rfl ?_ (by repeat' (first | exact SLe.wo _ _ | exact SLe.refl _ | refine SLe.fresh rfl ?_)) (by first | exact MLe.none _ | exact MLe.refl _ | (repeat' (first | exact MLe.nil | exact MLe.refl _ | refine MLe.cons _ ?_ | refine MLe.drop _ ?_)))
        first | (simp_all; done) | (simp_all; omega)
      · skip
        refine AOps.gf 20 rfl rfl rfl rfl rfl ?_
        refine AOps.gf 21 rfl rfl rfl rfl rfl ?_
        refine AOps.gf 22 rfl rfl rfl rfl rfl ?_
        refine AOps.gf 23 rfl rfl rfl rfl rfl ?_
        refine AOps.gf 24 rfl rfl rfl rfl rfl ?_
        refine AOps.gf 25 rfl rfl rfl rfl rfl ?_
        refine AOps.gf 26 rfl rfl rfl rfl rfl ?_
        refine AOps.st 27 rfl rfl rfl (op_pick rfl rfl rfl ?_)
        refine AOps.nil ?_
        refine BoolQ.mk rfl ?_ (by repeat' (first | exact SLe.wo _ _ | exact SLe.refl _ | refine SLe.fresh rfl ?_)) (by first | exact MLe.none _ | exact MLe.refl _ | (repeat' (first | exact MLe.nil | exact MLe.refl _ | refine MLe.cons _ ?_ | refine MLe.drop _ ?_)))
        simp_all; done
    · skip
      refine AOps.gf 12 rfl rfl rfl rfl rfl ?_
      refine AOps.gf 13 rfl rfl rfl rfl rfl ?_
      refine AOps.gf 14 rfl rfl rfl rfl rfl ?_
      refine AOps.gf 15 rfl rfl rfl rfl rfl ?_
      refine AOps.gf 16 rfl rfl rfl rfl rfl ?_
      refine AOps.gf 17 rfl rfl rfl rfl rfl ?_
      refine AOps.st 18 rfl rfl rfl (op_pick rfl rfl rfl ?_)
      refine AOps.st 19 rfl rfl rfl (op_move rfl rfl ?_)
      refine AOps.gf 20 rfl rfl rfl rfl rfl ?_
      refine AOps.gf 21 rfl rfl rfl rfl rfl ?_
      refine AOps.gf 22 rfl rfl rfl rfl rfl ?_
      refine AOps.gf 23 rfl rfl rfl rfl rfl ?_
      refine AOps.gf 24 rfl rfl rfl rfl rfl ?_
      refine AOps.gf 25 rfl rfl rfl rfl rfl ?_
      refine AOps.gf 26 rfl rfl rfl rfl rfl ?_
      refine AOps.st 27 rfl rfl rfl (op_pick rfl rfl rfl ?_)
      refine AOps.nil ?_
      refine BoolQ.mk rfl ?_ (by repeat' (first | exact SLe.wo _ _ | exact SLe.refl _ | refine SLe.fresh rfl ?_)) (by first | exact MLe.none _ | exact MLe.refl _ | (repeat' (first | exact MLe.nil | exact MLe.refl _ | refine MLe.cons _ ?_ | refine MLe.drop _ ?_)))
      simp_all; done
  intro c27 h27
  refine go_code ?_
  rcases bool_split h27 with ⟨rfl, g27⟩ | ⟨rfl, g27⟩
  · refine c_cond_f rfl ?_
    refine c_skip ?_
    refine go_code ?_
    refine c_seq ?_
    refine c_seq ?_
    obtain ⟨e1, e2, e4⟩ := Classical.not_not.1 g27
    refine c_region ?_
    refine AOps.st 5 rfl rfl rfl (op_assign rfl rfl ?_)
    refine AOps.nil ?_
    refine go_code ?_
    refine c_block ?_
    apply c_loopkm [0, 1, 4, 5, 6, 7, 8, 9, 10, 11, 12, 13, 14, 15, 16, 17, 18, 19, 20, 21, 22, 23, 24, 25, 26, 27, 28, 29, 30, 31, 32, 33, 34, 35, 36, 37, 38, 39, 40, 41, 42, 43, 44, 45, 46, 47, 48, 49, 50, 51, 52, 53, 54, 55, 56, 57, 58, 59, 60, 61, 62, 63] (σ := Nat) (fun zz => match zz with | i => [(5, .val (.int .i64 i))]) (fun zz => match zz with | i => i ≤ cx1.length ∧ Upto cx1 cx2 i) (fun zz => match zz with | i => cx1.length - i) (0)
    · repeat' (first | exact Drops.nil | apply Drops.keep rfl | apply Drops.skip rfl)
    · exact ⟨by omega, Upto.zero _ _⟩
    · exact (by repeat' (first | exact SLe.nil _ | refine SLe.cons rfl ?_ ?_ | exact Le.refl _ | exact Le.own _ _ _ | exact Le.nil _))
    rintro i hI
    try dsimp only [List.cons_append, List.nil_append] at hI ⊢
    obtain ⟨hi, hu⟩ := hI
    refine c_seq ?_
    refine c_seq ?_
    refine c_region ?_
    refine AOps.st 28 rfl rfl rfl (op_move rfl rfl ?_)
    refine AOps.st 29 rfl rfl rfl (op_fieldAddr_c rfl tf_127_2 rfl rfl ?_)
    refine AOps.st 30 rfl rfl rfl (op_load_c1 rfl ta_125 rfl rfl ?_)
    refine AOps.st 31 rfl rfl rfl (op_len rfl tu_125 rfl (.seq _ _) (fun n31 => ?_))
    refine AOps.st 32 rfl rfl rfl (op_lss rfl rfl rfl ?_); intro c32 h32
    refine AOps.nil ?_
    refine go_code ?_
    rcases bool_split h32 with ⟨rfl, g32⟩ | ⟨rfl, g32⟩
    · refine c_cond_f rfl ?_
      refine c_exit ?_
      refine x_code ?_
      refine x_lp ?_
      refine x_here ?_
      refine go_code ?_
      refine c_seq ?_
      have hme := hu.eq (by omega) (by omega)
      refine c_region ?_
      refine AOps.st 64 rfl rfl rfl (op_fieldAddr_c rfl tf_127_3 rfl rfl ?_)
      refine AOps.st 65 rfl rfl rfl (op_load_c1 rfl ta_58 rfl rfl ?_)
      refine AOps.st 66 rfl rfl rfl (op_fieldAddr_c rfl tf_127_3 rfl rfl ?_)
      refine AOps.st 67 rfl rfl rfl (op_load_c1 rfl ta_58 rfl rfl ?_)
      refine AOps.st 68 rfl rfl rfl (op_callb (xs := [.tmp 65, .tmp 67]) rfl rfl (SameBinds_c bs1 bs2) (by first | exact Les.refl _ | (repeat' (first | exact Les.refl _ | refine Les.cons ?_ ?_ | exact Le.refl _ | exact Le.own _ _ _ | exact Le.nil _ | refine Le.agg ?_))) ?_); intro c68 h68
      refine AOps.st 4 rfl rfl rfl (op_assign rfl rfl ?_)
      refine AOps.nil ?_
      refine go_code ?_
      refine c_ret ?_
      exact out_tmp rfl rfl (Le.refl _) (by first | exact MLe.none _ | exact MLe.refl _ | (repeat' (first | exact MLe.nil | exact MLe.refl _ | refine MLe.cons _ ?_ | refine MLe.drop _ ?_))) ⟨⟨_, h68.trans ⟨fun q => ⟨e1, e2, hme, q⟩, fun q => q.2.2.2⟩, rfl⟩, rfl⟩
    · refine c_cond_t rfl ?_
      refine c_skip ?_
      refine go_code ?_
      refine c_seq ?_
      refine c_block ?_
      refine c_seq ?_
      obtain ⟨⟨xc, ⟨xtk, xts, xtn, xtl⟩⟩, hxx⟩ := get_some (l := cx1) (i := i) (by first | omega | (simp at *; omega))
      have hcx := Pr.cellss_get hxx
      have hmx := List.mem_of_getElem? hxx
      obtain ⟨⟨yc, ⟨ytk, yts, ytn, ytl⟩⟩, hxy⟩ := get_some (l := cx2) (i := i) (by first | omega | (simp at *; omega))
      have hcy := Pr.cellss_get hxy
      have hmy := List.mem_of_getElem? hxy
      refine c_boold 63 (¬ (xc = yc ∧ (⟨xtk, xts, xtn, xtl⟩ : Ty) = ⟨ytk, yts, ytn, ytl⟩)) tmix rfl ?_ _ _ rfl ?_
      · skip
        refine DOps.st 35 rfl rfl (op_fieldAddr_c rfl tf_127_2 rfl rfl ⟨rfl, rfl⟩) ?_
        refine DOps.st 36 rfl rfl (op_load_c1 rfl ta_125 rfl rfl ⟨rfl, rfl⟩) ?_
        refine DOps.st 37 rfl rfl (op_move rfl rfl ⟨rfl, rfl⟩) ?_
        refine DOps.st 38 rfl rfl (op_index rfl te_125 rfl (.seq _ _) rfl rfl (by assumption) ⟨rfl, rfl⟩) ?_
        first | (refine DOps.st 39 rfl rfl (op_fieldAddr_m rfl tf_157_0 rfl ⟨rfl, rfl⟩) ?_) | (refine DOps.st 39 rfl rfl (op_fieldAddr_c rfl tf_157_0 rfl rfl ⟨rfl, rfl⟩) ?_)
        first | (refine DOps.st 40 rfl rfl (op_load_m1 (i := 0) rfl ta_9 rfl rfl rfl ⟨rfl, rfl⟩) ?_) | (refine DOps.st 40 rfl rfl (op_load_m1 (i := 1) rfl ta_9 rfl rfl rfl ⟨rfl, rfl⟩) ?_) | (refine DOps.st 40 rfl rfl (op_load_m1 (i := 2) rfl ta_9 rfl rfl rfl ⟨rfl, rfl⟩) ?_) | (refine DOps.st 40 rfl rfl (op_load_m1 (i := 3) rfl ta_9 rfl rfl rfl ⟨rfl, rfl⟩) ?_) | (refine DOps.st 40 rfl rfl (op_load_m1 (i := 4) rfl ta_9 rfl rfl rfl ⟨rfl, rfl⟩) ?_) | (refine DOps.st 40 rfl rfl (op_load_m1 (i := 5) rfl ta_9 rfl rfl rfl ⟨rfl, rfl⟩) ?_) | (refine DOps.st 40 rfl rfl (op_load_c1 rfl ta_9 rfl rfl ⟨rfl, rfl⟩) ?_)
        refine DOps.st 41 rfl rfl (op_fieldAddr_c rfl tf_127_2 rfl rfl ⟨rfl, rfl⟩) ?_
        refine DOps.st 42 rfl rfl (op_load_c1 rfl ta_125 rfl rfl ⟨rfl, rfl⟩) ?_
        refine DOps.st 43 rfl rfl (op_move rfl rfl ⟨rfl, rfl⟩) ?_
        refine DOps.st 44 rfl rfl (op_index rfl te_125 rfl (.seq _ _) rfl rfl (by assumption) ⟨rfl, rfl⟩) ?_
        first | (refine DOps.st 45 rfl rfl (op_fieldAddr_m rfl tf_157_0 rfl ⟨rfl, rfl⟩) ?_) | (refine DOps.st 45 rfl rfl (op_fieldAddr_c rfl tf_157_0 rfl rfl ⟨rfl, rfl⟩) ?_)
        first | (refine DOps.st 46 rfl rfl (op_load_m1 (i := 0) rfl ta_9 rfl rfl rfl ⟨rfl, rfl⟩) ?_) | (refine DOps.st 46 rfl rfl (op_load_m1 (i := 1) rfl ta_9 rfl rfl rfl ⟨rfl, rfl⟩) ?_) | (refine DOps.st 46 rfl rfl (op_load_m1 (i := 2) rfl ta_9 rfl rfl rfl ⟨rfl, rfl⟩) ?_) | (refine DOps.st 46 rfl rfl (op_load_m1 (i := 3) rfl ta_9 rfl rfl rfl ⟨rfl, rfl⟩) ?_) | (refine DOps.st 46 rfl rfl (op_load_m1 (i := 4) rfl ta_9 rfl rfl rfl ⟨rfl, rfl⟩) ?_) | (refine DOps.st 46 rfl rfl (op_load_m1 (i := 5) rfl ta_9 rfl rfl rfl ⟨rfl, rfl⟩) ?_) | (refine DOps.st 46 rfl rfl (op_load_c1 rfl ta_9 rfl rfl ⟨rfl, rfl⟩) ?_)
        refine DOps.cm 47 rfl rfl (fun _ q => op_sneq rfl rfl rfl q) ?_; intro c47 h47
        refine DOps.st 48 rfl rfl (op_move rfl rfl ⟨rfl, rfl⟩) ?_
        rcases bool_split h47 with ⟨rfl, g47⟩ | ⟨rfl, g47⟩
        · skip
          refine DOps.gt 49 rfl rfl rfl rfl (op_fieldAddr_c rfl tf_127_2 rfl rfl ⟨rfl, rfl⟩) ?_
          refine DOps.gt 50 rfl rfl rfl rfl (op_load_c1 rfl ta_125 rfl rfl ⟨rfl, rfl⟩) ?_
          refine DOps.gt 51 rfl rfl rfl rfl (op_move rfl rfl ⟨rfl, rfl⟩) ?_
          refine DOps.gt 52 rfl rfl rfl rfl (op_index rfl te_125 rfl (.seq _ _) rfl rfl (by assumption) ⟨rfl, rfl⟩) ?_
          first | (refine DOps.gt 53 rfl rfl rfl rfl (op_fieldAddr_m rfl tf_157_1 rfl ⟨rfl, rfl⟩) ?_) | (refine DOps.gt 53 rfl rfl rfl rfl (op_fieldAddr_c rfl tf_157_1 rfl rfl ⟨rfl, rfl⟩) ?_)
          first | (refine DOps.gt 54 rfl rfl rfl rfl (op_load_m (cs' := [_, _, _, _]) (i := 0) rfl ta_24 rfl rfl rfl rfl ⟨rfl, rfl⟩) ?_) | (refine DOps.gt 54 rfl rfl rfl rfl (op_load_m (cs' := [_, _, _, _]) (i := 1) rfl ta_24 rfl rfl rfl rfl ⟨rfl, rfl⟩) ?_) | (refine DOps.gt 54 rfl rfl rfl rfl (op_load_m (cs' := [_, _, _, _]) (i := 2) rfl ta_24 rfl rfl rfl rfl ⟨rfl, rfl⟩) ?_) | (refine DOps.gt 54 rfl rfl rfl rfl (op_load_m (cs' := [_, _, _, _]) (i := 3) rfl ta_24 rfl rfl rfl rfl ⟨rfl, rfl⟩) ?_) | (refine DOps.gt 54 rfl rfl rfl rfl (op_load_m (cs' := [_, _, _, _]) (i := 4) rfl ta_24 rfl rfl rfl rfl ⟨rfl, rfl⟩) ?_) | (refine DOps.gt 54 rfl rfl rfl rfl (op_load_m (cs' := [_, _, _, _]) (i := 5) rfl ta_24 rfl rfl rfl rfl ⟨rfl, rfl⟩) ?_) | (refine DOps.gt 54 rfl rfl rfl rfl (op_load_c (cs' := [_, _, _, _]) rfl ta_24 rfl rfl rfl ⟨rfl, rfl⟩) ?_)
          refine DOps.gt 55 rfl rfl rfl rfl (op_fieldAddr_c rfl tf_127_2 rfl rfl ⟨rfl, rfl⟩) ?_
          refine DOps.gt 56 rfl rfl rfl rfl (op_load_c1 rfl ta_125 rfl rfl ⟨rfl, rfl⟩) ?_
          refine DOps.gt 57 rfl rfl rfl rfl (op_move rfl rfl ⟨rfl, rfl⟩) ?_
          refine DOps.gt 58 rfl rfl rfl rfl (op_index rfl te_125 rfl (.seq _ _) rfl rfl (by assumption) ⟨rfl, rfl⟩) ?_
          first | (refine DOps.gt 59 rfl rfl rfl rfl (op_fieldAddr_m rfl tf_157_1 rfl ⟨rfl, rfl⟩) ?_) | (refine DOps.gt 59 rfl rfl rfl rfl (op_fieldAddr_c rfl tf_157_1 rfl rfl ⟨rfl, rfl⟩) ?_)
          first | (refine DOps.gt 60 rfl rfl rfl rfl (op_load_m (cs' := [_, _, _, _]) (i := 0) rfl ta_24 rfl rfl rfl rfl ⟨rfl, rfl⟩) ?_) | (refine DOps.gt 60 rfl rfl rfl rfl (op_load_m (cs' := [_, _, _, _]) (i := 1) rfl ta_24 rfl rfl rfl rfl ⟨rfl, rfl⟩) ?_) | (refine DOps.gt 60 rfl rfl rfl rfl (op_load_m (cs' := [_, _, _, _]) (i := 2) rfl ta_24 rfl rfl rfl rfl ⟨rfl, rfl⟩) ?_) | (refine DOps.gt 60 rfl rfl rfl rfl (op_load_m (cs' := [_, _, _, _]) (i := 3) rfl ta_24 rfl rfl rfl rfl ⟨rfl, rfl⟩) ?_) | (refine DOps.gt 60 rfl rfl rfl rfl (op_load_m (cs' := [_, _, _, _]) (i := 4) rfl ta_24 rfl rfl rfl rfl ⟨rfl, rfl⟩) ?_) | (refine DOps.gt 60 rfl rfl rfl rfl (op_load_m (cs' := [_, _, _, _]) (i := 5) rfl ta_24 rfl rfl rfl rfl ⟨rfl, rfl⟩) ?_) | (refine DOps.gt 60 rfl rfl rfl rfl (op_load_c (cs' := [_, _, _, _]) rfl ta_24 rfl rfl rfl ⟨rfl, rfl⟩) ?_)
          refine DOps.gtc 61 rfl rfl rfl rfl (fun _ q => op_callb (xs := [.tmp 54, .tmp 60]) rfl rfl (SameType_c ⟨xtk, xts, xtn, xtl⟩ ⟨ytk, yts, ytn, ytl⟩) (by first | exact Les.refl _ | (repeat' (first | exact Les.refl _ | refine Les.cons ?_ ?_ | exact Le.refl _ | exact Le.own _ _ _ | exact Le.nil _ | refine Le.agg ?_))) q) ?_; intro c61 h61
          refine DOps.gtc 62 rfl rfl rfl rfl (fun _ q => op_notc rfl rfl q) ?_; intro c62 h62
          try replace h62 := nott h62 h61
          refine DOps.st 63 rfl rfl (op_pick rfl rfl rfl ⟨rfl, rfl⟩) ?_
          show BoolQ _ _ _ _ _ _
          refine BoolQ.mk rfl ?_ (by repeat' (first | exact SLe.wo _ _ | exact SLe.refl _ | refine SLe.fresh rfl ?_)) (by first | exact MLe.none _ | exact MLe.refl _ | (repeat' (first | exact MLe.nil | exact MLe.refl _ | refine MLe.cons _ ?_ | refine MLe.drop _ ?_)))
          simp_all
        · skip
          refine DOps.gf 49 rfl rfl rfl rfl ?_
          refine DOps.gf 50 rfl rfl rfl rfl ?_
          refine DOps.gf 51 rfl rfl rfl rfl ?_
          refine DOps.gf 52 rfl rfl rfl rfl ?_
          refine DOps.gf 53 rfl rfl rfl rfl ?_
          refine DOps.gf 54 rfl rfl rfl rfl ?_
          refine DOps.gf 55 rfl rfl rfl rfl ?_
          refine DOps.gf 56 rfl rfl rfl rfl ?_
          refine DOps.gf 57 rfl rfl rfl rfl ?_
          refine DOps.gf 58 rfl rfl rfl rfl ?_
          refine DOps.gf 59 rfl rfl rfl rfl ?_
          refine DOps.gf 60 rfl rfl rfl rfl ?_
          refine DOps.gf 61 rfl rfl rfl rfl ?_
          refine DOps.gf 62 rfl rfl rfl rfl ?_
          refine DOps.st 63 rfl rfl (op_pick rfl rfl rfl ⟨rfl, rfl⟩) ?_
          show BoolQ _ _ _ _ _ _
          refine BoolQ.mk rfl ?_ (by repeat' (first | exact SLe.wo _ _ | exact SLe.refl _ | refine SLe.fresh rfl ?_)) (by first | exact MLe.none _ | exact MLe.refl _ | (repeat' (first | exact MLe.nil | exact MLe.refl _ | refine MLe.cons _ ?_ | refine MLe.drop _ ?_)))
          simp_all
      intro c63 h63
      refine go_code ?_
      rcases bool_split h63 with ⟨rfl, g63⟩ | ⟨rfl, g63⟩
      · refine c_cond_f rfl ?_
        refine c_skip ?_
        refine go_blk ?_
        refine go_code ?_
        refine c_region ?_
        refine AOps.st 33 rfl rfl rfl (op_move rfl rfl ?_)
        refine AOps.st 34 rfl rfl rfl (op_add rfl rfl rfl (IntWalk.i64_in _ (by omega)) ?_)
        refine AOps.st 5 rfl rfl rfl (op_assign rfl rfl ?_)
        refine AOps.nil ?_
        refine go_lp ?_
        exact ⟨i + 1, ⟨by omega, hu.succ hxx hxy (by simpa using Classical.not_not.1 g63)⟩, by simp; omega, (by repeat' (first | exact SLe.nil _ | refine SLe.cons rfl ?_ ?_ | exact Le.refl _ | exact Le.own _ _ _ | exact Le.nil _)), (by first | exact MLe.none _ | exact MLe.refl _ | (repeat' (first | exact MLe.nil | exact MLe.refl _ | refine MLe.cons _ ?_ | refine MLe.drop _ ?_)))⟩
      · refine c_cond_t rfl ?_
        refine c_seq ?_
        refine c_region ?_
        refine AOps.st 4 rfl rfl rfl (op_assign rfl rfl ?_)
        refine AOps.nil ?_
        refine go_code ?_
        refine c_ret ?_
        exact out_tmp rfl rfl (Le.refl _) (by first | exact MLe.none _ | exact MLe.refl _ | (repeat' (first | exact MLe.nil | exact MLe.refl _ | refine MLe.cons _ ?_ | refine MLe.drop _ ?_))) ⟨⟨_, iff_f (fun e => g63 (by have := e.2.2.1; subst this; rw [hxx] at hxy; simpa using Option.some.inj hxy)), rfl⟩, rfl⟩
  · refine c_cond_t rfl ?_
    refine c_seq ?_
    refine c_region ?_
    refine AOps.st 4 rfl rfl rfl (op_assign rfl rfl ?_)
    refine AOps.nil ?_
    refine go_code ?_
    refine c_ret ?_
    exact out_tmp rfl rfl (Le.refl _) (by first | exact MLe.none _ | exact MLe.refl _ | (repeat' (first | exact MLe.nil | exact MLe.refl _ | refine MLe.cons _ ?_ | refine MLe.drop _ ?_))) ⟨⟨_, iff_f (fun ⟨e1, e2, e3, _⟩ => g27 ⟨e1, e2, by rw [e3]⟩), rfl⟩, rfl⟩
set_option maxHeartbeats 4000000 in
set_option maxRecDepth 100000 in
theorem rSameProg_c (a b : Pg) : BCall Try.prog 59 [.agg a.cells, .agg b.cells] (a.key = b.key) := by
  obtain ⟨da1, cl1, in1, bs1⟩ := a
  obtain ⟨da2, cl2, in2, bs2⟩ := b
  have hk : ((Pg.mk da1 cl1 in1 bs1).key = (Pg.mk da2 cl2 in2 bs2).key) = (da1.map Da.key = da2.map Da.key ∧ cl1.map Cl.key = cl2.map Cl.key ∧ in1.map In.key = in2.map In.key ∧ bs1.map Bi.bare = bs2.map Bi.bare) := by simp only [Pg.key, Pg.da, Pg.cl, Pg.ins, Pg.bs, Prod.mk.injEq]
  have hl1 := Da.cellss_len da1
  have hl2 := Da.cellss_len da2
  have hl3 := Cl.cellss_len cl1
  have hl4 := Cl.cellss_len cl2
  have hl5 := In.cellss_len in1
  have hl6 := In.cellss_len in2
  rw [hk]
  refine ACall.enter Try.func59 rfl (by kernel_rfl) rfl (Nat.le_of_ble_eq_true rfl) ?_
  refine c_start ?_
  refine c_lena (t := 0) (j := 0) rfl rfl (.seq _ _) (fun hmax => ?_)
  refine c_lena (t := 0) (j := 1) rfl rfl (.seq _ _) (fun hmax2 => ?_)
  refine c_lena (t := 0) (j := 2) rfl rfl (.seq _ _) (fun hmax3 => ?_)
  refine c_seq ?_
  refine c_region ?_
  refine AOps.st 2 rfl rfl rfl (op_boxc (cs' := [_, _, _, _]) rfl rfl rfl rfl ?_)
  refine AOps.st 3 rfl rfl rfl (op_boxc (cs' := [_, _, _, _]) rfl rfl rfl rfl ?_)
  refine AOps.st 4 rfl rfl rfl (op_assign rfl rfl ?_)
  refine AOps.nil ?_
  refine go_code ?_
  refine c_seq ?_
  refine c_seq ?_
  refine c_bool 32 (¬ (da1.length = da2.length ∧ cl1.length = cl2.length ∧ in1.length = in2.length)) ?_ _ _ rfl ?_
  · skip
    refine AOps.st 8 rfl rfl rfl (op_fieldAddr_c rfl tf_81_0 rfl rfl ?_)
    refine AOps.st 9 rfl rfl rfl (op_load_c1 rfl ta_77 rfl rfl ?_)
    refine AOps.st 10 rfl rfl rfl (op_len rfl tu_77 rfl (.seq _ _) (fun n10 => ?_))
    refine AOps.st 11 rfl rfl rfl (op_fieldAddr_c rfl tf_81_0 rfl rfl ?_)
    refine AOps.st 12 rfl rfl rfl (op_load_c1 rfl ta_77 rfl rfl ?_)
    refine AOps.st 13 rfl rfl rfl (op_len rfl tu_77 rfl (.seq _ _) (fun n13 => ?_))
    refine AOps.st 14 rfl rfl rfl (op_neq rfl rfl rfl ?_); intro c14 h14
    refine AOps.st 15 rfl rfl rfl (op_move rfl rfl ?_)
    rcases bool_split h14 with ⟨rfl, g14⟩ | ⟨rfl, g14⟩
    · skip
      refine AOps.gt 16 rfl rfl rfl rfl rfl (op_fieldAddr_c rfl tf_81_1 rfl rfl ?_)
      refine AOps.gt 17 rfl rfl rfl rfl rfl (op_load_c1 rfl ta_78 rfl rfl ?_)
      refine AOps.gt 18 rfl rfl rfl rfl rfl (op_len rfl tu_78 rfl (.seq _ _) (fun n18 => ?_))
      refine AOps.gt 19 rfl rfl rfl rfl rfl (op_fieldAddr_c rfl tf_81_1 rfl rfl ?_)
      refine AOps.gt 20 rfl rfl rfl rfl rfl (op_load_c1 rfl ta_78 rfl rfl ?_)
      refine AOps.gt 21 rfl rfl rfl rfl rfl (op_len rfl tu_78 rfl (.seq _ _) (fun n21 => ?_))
      refine AOps.gt 22 rfl rfl rfl rfl rfl (op_neq rfl rfl rfl ?_); intro c22 h22
      refine AOps.st 23 rfl rfl rfl (op_pick rfl rfl rfl ?_)
      refine AOps.st 24 rfl rfl rfl (op_move rfl rfl ?_)
      rcases bool_split h22 with ⟨rfl, g22⟩ | ⟨rfl, g22⟩
      · skip
        refine AOps.gt 25 rfl rfl rfl rfl rfl (op_fieldAddr_c rfl tf_81_2 rfl rfl ?_)
        refine AOps.gt 26 rfl rfl rfl rfl rfl (op_load_c1 rfl ta_79 rfl rfl ?_)
        refine AOps.gt 27 rfl rfl rfl rfl rfl (op_len rfl tu_79 rfl (.seq _ _) (fun n27 => ?_))
        refine AOps.gt 28 rfl rfl rfl rfl rfl (op_fieldAddr_c rfl tf_81_2 rfl rfl ?_)
        refine AOps.gt 29 rfl rfl rfl rfl rfl (op_load_c1 rfl ta_79 rfl rfl ?_)
        refine AOps.gt 30 rfl rfl rfl rfl rfl (op_len rfl tu_79 rfl (.seq _ _) (fun n30 => ?_))
        refine AOps.gt 31 rfl rfl rfl rfl rfl (op_neq rfl rfl rfl ?_); intro c31 h31
        refine AOps.st 32 rfl rfl rfl (op_pick rfl rfl rfl ?_)
        refine AOps.nil ?_
        refine BoolQ.mk rfl ?_ (by repeat' (first | exact SLe.wo _ _ | exact SLe.refl _ | refine SLe.fresh rfl ?_)) (by first | exact MLe.none _ | exact MLe.refl _ | (repeat' (first | exact MLe.nil | exact MLe.refl _ | refine MLe.cons _ ?_ | refine MLe.drop _ ?_)))
        first | (simp_all; done) | (simp_all; omega)
      · skip
        refine AOps.gf 25 rfl rfl rfl rfl rfl ?_
        refine AOps.gf 26 rfl rfl rfl rfl rfl ?_
        refine AOps.gf 27 rfl rfl rfl rfl rfl ?_
        refine AOps.gf 28 rfl rfl rfl rfl rfl ?_
        refine AOps.gf 29 rfl rfl rfl rfl rfl ?_
        refine AOps.gf 30 rfl rfl rfl rfl rfl ?_
        refine AOps.gf 31 rfl rfl rfl rfl rfl ?_
        refine AOps.st 32 rfl rfl rfl (op_pick rfl rfl rfl ?_)
        refine AOps.nil ?_
        refine BoolQ.mk rfl ?_ (by repeat' (first | exact SLe.wo _ _ | exact SLe.refl _ | refine SLe.fresh rfl ?_)) (by first | exact MLe.none _ | exact MLe.refl _ | (repeat' (first | exact MLe.nil | exact MLe.refl _ | refine MLe.cons _ ?_ | refine MLe.drop _ ?_)))
        first | (simp_all; done) | (simp_all; omega)
    · skip
      refine AOps.gf 16 rfl rfl rfl rfl rfl ?_
      refine AOps.gf 17 rfl rfl rfl rfl rfl ?_
      refine AOps.gf 18 rfl rfl rfl rfl rfl ?_
      refine AOps.gf 19 rfl rfl rfl rfl rfl ?_
      refine AOps.gf 20 rfl rfl rfl rfl rfl ?_
      refine AOps.gf 21 rfl rfl rfl rfl rfl ?_
      refine AOps.gf 22 rfl rfl rfl rfl rfl ?_
      refine AOps.st 23 rfl rfl rfl (op_pick rfl rfl rfl ?_)
      refine AOps.st 24 rfl rfl rfl (op_move rfl rfl ?_)
      refine AOps.gf 25 rfl rfl rfl rfl rfl ?_
      refine AOps.gf 26 rfl rfl rfl rfl rfl ?_
      refine AOps.gf 27 rfl rfl rfl rfl rfl ?_
      refine AOps.gf 28 rfl rfl rfl rfl rfl ?_
      refine AOps.gf 29 rfl rfl rfl rfl rfl ?_
      refine AOps.gf 30 rfl rfl rfl rfl rfl ?_
      refine AOps.gf 31 rfl rfl rfl rfl rfl ?_
      refine AOps.st 32 rfl rfl rfl (op_pick rfl rfl rfl ?_)
      refine AOps.nil ?_
      refine BoolQ.mk rfl ?_ (by repeat' (first | exact SLe.wo _ _ | exact SLe.refl _ | refine SLe.fresh rfl ?_)) (by first | exact MLe.none _ | exact MLe.refl _ | (repeat' (first | exact MLe.nil | exact MLe.refl _ | refine MLe.cons _ ?_ | refine MLe.drop _ ?_)))
      first | (simp_all; done) | (simp_all; omega)
  intro c32 h32
  refine go_code ?_
  rcases bool_split h32 with ⟨rfl, g32⟩ | ⟨rfl, g32⟩
  · refine c_cond_f rfl ?_
    refine c_skip ?_
    refine go_code ?_
    refine c_seq ?_
    refine c_seq ?_
    obtain ⟨e1, e2, e3⟩ := Classical.not_not.1 g32
    refine c_region ?_
    refine AOps.st 5 rfl rfl rfl (op_assign rfl rfl ?_)
    refine AOps.nil ?_
    refine go_code ?_
    refine c_block ?_
    apply c_loopkm [0, 1, 4, 5, 8, 9, 10, 11, 12, 13, 14, 15, 16, 17, 18, 19, 20, 21, 22, 23, 24, 25, 26, 27, 28, 29, 30, 31, 32, 33, 34, 35, 36, 37, 38, 39, 40, 41, 42, 43, 44, 45, 46, 47, 48, 49, 50, 51] (σ := Nat) (fun zz => match zz with | i => [(5, .val (.int .i64 i))]) (fun zz => match zz with | i => i ≤ da1.length ∧ Upto (da1.map Da.key) (da2.map Da.key) i) (fun zz => match zz with | i => da1.length - i) (0)
    · repeat' (first | exact Drops.nil | apply Drops.keep rfl | apply Drops.skip rfl)
    · exact ⟨by omega, Upto.zero _ _⟩
    · exact (by repeat' (first | exact SLe.nil _ | refine SLe.cons rfl ?_ ?_ | exact Le.refl _ | exact Le.own _ _ _ | exact Le.nil _))
    rintro i hI
    try dsimp only [List.cons_append, List.nil_append] at hI ⊢
    obtain ⟨hi, hu⟩ := hI
    refine c_seq ?_
    refine c_seq ?_
    refine c_region ?_
    refine AOps.st 33 rfl rfl rfl (op_move rfl rfl ?_)
    refine AOps.st 34 rfl rfl rfl (op_fieldAddr_c rfl tf_81_0 rfl rfl ?_)
    refine AOps.st 35 rfl rfl rfl (op_load_c1 rfl ta_77 rfl rfl ?_)
    refine AOps.st 36 rfl rfl rfl (op_len rfl tu_77 rfl (.seq _ _) (fun n36 => ?_))
    refine AOps.st 37 rfl rfl rfl (op_lss rfl rfl rfl ?_); intro c37 h37
    refine AOps.nil ?_
    refine go_code ?_
    rcases bool_split h37 with ⟨rfl, g37⟩ | ⟨rfl, g37⟩
    · refine c_cond_f rfl ?_
      refine c_exit ?_
      refine x_code ?_
      refine x_lp ?_
      refine x_here ?_
      refine go_code ?_
      refine c_seq ?_
      refine c_seq ?_
      have hda := hu.eq (by simp; omega) (by simp; omega)
      refine c_region ?_
      refine AOps.st 6 rfl rfl rfl (op_assign rfl rfl ?_)
      refine AOps.nil ?_
      refine go_code ?_
      refine c_block ?_
      apply c_loopkm [0, 1, 4, 5, 6, 8, 9, 10, 11, 12, 13, 14, 15, 16, 17, 18, 19, 20, 21, 22, 23, 24, 25, 26, 27, 28, 29, 30, 31, 32, 33, 34, 35, 36, 37, 38, 39, 40, 41, 42, 43, 44, 45, 46, 47, 48, 49, 50, 51, 52, 53, 54, 55, 56, 57, 58, 59, 60, 61, 62, 63, 64, 65, 66, 67, 68, 69, 70] (σ := Nat) (fun zz => match zz with | i => [(6, .val (.int .i64 i))]) (fun zz => match zz with | i => i ≤ cl1.length ∧ Upto (cl1.map Cl.key) (cl2.map Cl.key) i) (fun zz => match zz with | i => cl1.length - i) (0)
      · repeat' (first | exact Drops.nil | apply Drops.keep rfl | apply Drops.skip rfl)
      · exact ⟨by omega, Upto.zero _ _⟩
      · exact (by repeat' (first | exact SLe.nil _ | refine SLe.cons rfl ?_ ?_ | exact Le.refl _ | exact Le.own _ _ _ | exact Le.nil _))
      rintro i hI
      try dsimp only [List.cons_append, List.nil_append] at hI ⊢
      obtain ⟨hi, hu⟩ := hI
      refine c_seq ?_
      refine c_seq ?_
      refine c_region ?_
      refine AOps.st 52 rfl rfl rfl (op_move rfl rfl ?_)
      refine AOps.st 53 rfl rfl rfl (op_fieldAddr_c rfl tf_81_1 rfl rfl ?_)
      refine AOps.st 54 rfl rfl rfl (op_load_c1 rfl ta_78 rfl rfl ?_)
      refine AOps.st 55 rfl rfl rfl (op_len rfl tu_78 rfl (.seq _ _) (fun n55 => ?_))
      refine AOps.st 56 rfl rfl rfl (op_lss rfl rfl rfl ?_); intro c56 h56
      refine AOps.nil ?_
      refine go_code ?_
      rcases bool_split h56 with ⟨rfl, g56⟩ | ⟨rfl, g56⟩
      · refine c_cond_f rfl ?_
        refine c_exit ?_
        refine x_code ?_
        refine x_lp ?_
        refine x_here ?_
        refine go_code ?_
        refine c_seq ?_
        refine c_seq ?_
        have hcl := hu.eq (by simp; omega) (by simp; omega)
        refine c_region ?_
        refine AOps.st 7 rfl rfl rfl (op_assign rfl rfl ?_)
        refine AOps.nil ?_
        refine go_code ?_
        refine c_block ?_
        apply c_loopkm [0, 1, 4, 5, 6, 7, 8, 9, 10, 11, 12, 13, 14, 15, 16, 17, 18, 19, 20, 21, 22, 23, 24, 25, 26, 27, 28, 29, 30, 31, 32, 33, 34, 35, 36, 37, 38, 39, 40, 41, 42, 43, 44, 45, 46, 47, 48, 49, 50, 51, 52, 53, 54, 55, 56, 57, 58, 59, 60, 61, 62, 63, 64, 65, 66, 67, 68, 69, 70, 71, 72, 73, 74, 75, 76, 77, 78, 79, 80, 81, 82, 83, 84, 85, 86, 87, 88, 89] (σ := Nat) (fun zz => match zz with | i => [(7, .val (.int .i64 i))]) (fun zz => match zz with | i => i ≤ in1.length ∧ Upto (in1.map In.key) (in2.map In.key) i) (fun zz => match zz with | i => in1.length - i) (0)
        · repeat' (first | exact Drops.nil | apply Drops.keep rfl | apply Drops.skip rfl)
        · exact ⟨by omega, Upto.zero _ _⟩
        · exact (by repeat' (first | exact SLe.nil _ | refine SLe.cons rfl ?_ ?_ | exact Le.refl _ | exact Le.own _ _ _ | exact Le.nil _))
        rintro i hI
        try dsimp only [List.cons_append, List.nil_append] at hI ⊢
        obtain ⟨hi, hu⟩ := hI
        refine c_seq ?_
        refine c_seq ?_
        refine c_region ?_
        refine AOps.st 71 rfl rfl rfl (op_move rfl rfl ?_)
        refine AOps.st 72 rfl rfl rfl (op_fieldAddr_c rfl tf_81_2 rfl rfl ?_)
        refine AOps.st 73 rfl rfl rfl (op_load_c1 rfl ta_79 rfl rfl ?_)
        refine AOps.st 74 rfl rfl rfl (op_len rfl tu_79 rfl (.seq _ _) (fun n74 => ?_))
        refine AOps.st 75 rfl rfl rfl (op_lss rfl rfl rfl ?_); intro c75 h75
        refine AOps.nil ?_
        refine go_code ?_
        rcases bool_split h75 with ⟨rfl, g75⟩ | ⟨rfl, g75⟩
        · refine c_cond_f rfl ?_
          refine c_exit ?_
          refine x_code ?_
          refine x_lp ?_
          refine x_here ?_
          refine go_code ?_
          refine c_seq ?_
          have hin := hu.eq (by simp; omega) (by simp; omega)
          refine c_region ?_
          refine AOps.st 90 rfl rfl rfl (op_fieldAddr_c rfl tf_81_3 rfl rfl ?_)
          refine AOps.st 91 rfl rfl rfl (op_load_c1 rfl ta_58 rfl rfl ?_)
          refine AOps.st 92 rfl rfl rfl (op_fieldAddr_c rfl tf_81_3 rfl rfl ?_)
          refine AOps.st 93 rfl rfl rfl (op_load_c1 rfl ta_58 rfl rfl ?_)
          refine AOps.st 94 rfl rfl rfl (op_callb (xs := [.tmp 91, .tmp 93]) rfl rfl (SameBinds_c bs1 bs2) (by first | exact Les.refl _ | (repeat' (first | exact Les.refl _ | refine Les.cons ?_ ?_ | exact Le.refl _ | exact Le.own _ _ _ | exact Le.nil _ | refine Le.agg ?_))) ?_); intro c94 h94
          refine AOps.st 4 rfl rfl rfl (op_assign rfl rfl ?_)
          refine AOps.nil ?_
          refine go_code ?_
          refine c_ret ?_
          exact out_tmp rfl rfl (Le.refl _) (by first | exact MLe.none _ | exact MLe.refl _ | (repeat' (first | exact MLe.nil | exact MLe.refl _ | refine MLe.cons _ ?_ | refine MLe.drop _ ?_))) ⟨⟨_, h94.trans ⟨fun q => ⟨hda, hcl, hin, q⟩, fun q => q.2.2.2⟩, rfl⟩, rfl⟩
        · refine c_cond_t rfl ?_
          refine c_skip ?_
          refine go_code ?_
          refine c_seq ?_
          refine c_block ?_
          refine c_seq ?_
          obtain ⟨⟨xc, ⟨xhdk, xhds, xhdn, xhdl⟩, xcx, xbs, xp⟩, hxx⟩ := get_some (l := in1) (i := i) (by first | omega | (simp at *; omega))
          have hcx := In.cellss_get hxx
          have hmx := List.mem_of_getElem? hxx
          obtain ⟨⟨yc, ⟨yhdk, yhds, yhdn, yhdl⟩, ycx, ybs, yp⟩, hxy⟩ := get_some (l := in2) (i := i) (by first | omega | (simp at *; omega))
          have hcy := In.cellss_get hxy
          have hmy := List.mem_of_getElem? hxy
          refine c_drawn tmix rfl ?_
          refine DOps.st 78 rfl rfl (op_fieldAddr_c rfl tf_81_2 rfl rfl ⟨rfl, rfl⟩) ?_
          refine DOps.st 79 rfl rfl (op_load_c1 rfl ta_79 rfl rfl ⟨rfl, rfl⟩) ?_
          refine DOps.st 80 rfl rfl (op_move rfl rfl ⟨rfl, rfl⟩) ?_
          refine DOps.st 81 rfl rfl (op_index rfl te_79 rfl (.seq _ _) rfl rfl (by assumption) ⟨rfl, rfl⟩) ?_
          first | (refine DOps.st 82 rfl rfl (op_load_m (cs' := [_, _, _, _, _, _, _, _]) (i := 0) rfl ta_127 rfl rfl rfl rfl ⟨rfl, rfl⟩) ?_) | (refine DOps.st 82 rfl rfl (op_load_m (cs' := [_, _, _, _, _, _, _, _]) (i := 1) rfl ta_127 rfl rfl rfl rfl ⟨rfl, rfl⟩) ?_) | (refine DOps.st 82 rfl rfl (op_load_m (cs' := [_, _, _, _, _, _, _, _]) (i := 2) rfl ta_127 rfl rfl rfl rfl ⟨rfl, rfl⟩) ?_) | (refine DOps.st 82 rfl rfl (op_load_m (cs' := [_, _, _, _, _, _, _, _]) (i := 3) rfl ta_127 rfl rfl rfl rfl ⟨rfl, rfl⟩) ?_) | (refine DOps.st 82 rfl rfl (op_load_m (cs' := [_, _, _, _, _, _, _, _]) (i := 4) rfl ta_127 rfl rfl rfl rfl ⟨rfl, rfl⟩) ?_) | (refine DOps.st 82 rfl rfl (op_load_m (cs' := [_, _, _, _, _, _, _, _]) (i := 5) rfl ta_127 rfl rfl rfl rfl ⟨rfl, rfl⟩) ?_) | (refine DOps.st 82 rfl rfl (op_load_c (cs' := [_, _, _, _, _, _, _, _]) rfl ta_127 rfl rfl rfl ⟨rfl, rfl⟩) ?_)
          refine DOps.st 83 rfl rfl (op_fieldAddr_c rfl tf_81_2 rfl rfl ⟨rfl, rfl⟩) ?_
          refine DOps.st 84 rfl rfl (op_load_c1 rfl ta_79 rfl rfl ⟨rfl, rfl⟩) ?_
          refine DOps.st 85 rfl rfl (op_move rfl rfl ⟨rfl, rfl⟩) ?_
          refine DOps.st 86 rfl rfl (op_index rfl te_79 rfl (.seq _ _) rfl rfl (by assumption) ⟨rfl, rfl⟩) ?_
          first | (refine DOps.st 87 rfl rfl (op_load_m (cs' := [_, _, _, _, _, _, _, _]) (i := 0) rfl ta_127 rfl rfl rfl rfl ⟨rfl, rfl⟩) ?_) | (refine DOps.st 87 rfl rfl (op_load_m (cs' := [_, _, _, _, _, _, _, _]) (i := 1) rfl ta_127 rfl rfl rfl rfl ⟨rfl, rfl⟩) ?_) | (refine DOps.st 87 rfl rfl (op_load_m (cs' := [_, _, _, _, _, _, _, _]) (i := 2) rfl ta_127 rfl rfl rfl rfl ⟨rfl, rfl⟩) ?_) | (refine DOps.st 87 rfl rfl (op_load_m (cs' := [_, _, _, _, _, _, _, _]) (i := 3) rfl ta_127 rfl rfl rfl rfl ⟨rfl, rfl⟩) ?_) | (refine DOps.st 87 rfl rfl (op_load_m (cs' := [_, _, _, _, _, _, _, _]) (i := 4) rfl ta_127 rfl rfl rfl rfl ⟨rfl, rfl⟩) ?_) | (refine DOps.st 87 rfl rfl (op_load_m (cs' := [_, _, _, _, _, _, _, _]) (i := 5) rfl ta_127 rfl rfl rfl rfl ⟨rfl, rfl⟩) ?_) | (refine DOps.st 87 rfl rfl (op_load_c (cs' := [_, _, _, _, _, _, _, _]) rfl ta_127 rfl rfl rfl ⟨rfl, rfl⟩) ?_)
          refine DOps.cm 88 rfl rfl (fun _ q => op_callb (xs := [.tmp 82, .tmp 87]) rfl rfl (rSameInst_c ⟨xc, ⟨xhdk, xhds, xhdn, xhdl⟩, xcx, xbs, xp⟩ ⟨yc, ⟨yhdk, yhds, yhdn, yhdl⟩, ycx, ybs, yp⟩) (by first | exact Les.refl _ | (repeat' (first | exact Les.refl _ | refine Les.cons ?_ ?_ | exact Le.refl _ | exact Le.own _ _ _ | exact Le.nil _ | refine Le.agg ?_))) q) ?_; intro c88 h88
          refine DOps.cm 89 rfl rfl (fun _ q => op_notc rfl rfl q) ?_; intro c89 h89
          try replace h89 := nott h89 h88
          show AGo _ _ _ _ _ _ _
          refine go_code ?_
          rcases bool_split h89 with ⟨rfl, g89⟩ | ⟨rfl, g89⟩
          · refine c_cond_f rfl ?_
            refine c_skip ?_
            refine go_blk ?_
            refine go_code ?_
            refine c_region ?_
            refine AOps.st 76 rfl rfl rfl (op_move rfl rfl ?_)
            refine AOps.st 77 rfl rfl rfl (op_add rfl rfl rfl (IntWalk.i64_in _ (by omega)) ?_)
            refine AOps.st 7 rfl rfl rfl (op_assign rfl rfl ?_)
            refine AOps.nil ?_
            refine go_lp ?_
            exact ⟨i + 1, ⟨by omega, upto_map In.key hu hxx hxy (Classical.not_not.1 g89)⟩, by simp; omega, (by repeat' (first | exact SLe.nil _ | refine SLe.cons rfl ?_ ?_ | exact Le.refl _ | exact Le.own _ _ _ | exact Le.nil _)), (by first | exact MLe.none _ | exact MLe.refl _ | (repeat' (first | exact MLe.nil | exact MLe.refl _ | refine MLe.cons _ ?_ | refine MLe.drop _ ?_)))⟩
          · refine c_cond_t rfl ?_
            refine c_seq ?_
            refine c_region ?_
            refine AOps.st 4 rfl rfl rfl (op_assign rfl rfl ?_)
            refine AOps.nil ?_
            refine go_code ?_
            refine c_ret ?_
            exact out_tmp rfl rfl (Le.refl _) (by first | exact MLe.none _ | exact MLe.refl _ | (repeat' (first | exact MLe.nil | exact MLe.refl _ | refine MLe.cons _ ?_ | refine MLe.drop _ ?_))) ⟨⟨_, iff_f (fun e => map_ne In.key hxx hxy g89 e.2.2.1), rfl⟩, rfl⟩
      · refine c_cond_t rfl ?_
        refine c_skip ?_
        refine go_code ?_
        refine c_seq ?_
        refine c_block ?_
        refine c_seq ?_
        obtain ⟨⟨xs, xv, xsu, xms, xds, xp⟩, hxx⟩ := get_some (l := cl1) (i := i) (by first | omega | (simp at *; omega))
        have hcx := Cl.cellss_get hxx
        have hmx := List.mem_of_getElem? hxx
        obtain ⟨⟨ys, yv, ysu, yms, yds, yp⟩, hxy⟩ := get_some (l := cl2) (i := i) (by first | omega | (simp at *; omega))
        have hcy := Cl.cellss_get hxy
        have hmy := List.mem_of_getElem? hxy
        refine c_drawn tmix rfl ?_
        refine DOps.st 59 rfl rfl (op_fieldAddr_c rfl tf_81_1 rfl rfl ⟨rfl, rfl⟩) ?_
        refine DOps.st 60 rfl rfl (op_load_c1 rfl ta_78 rfl rfl ⟨rfl, rfl⟩) ?_
        refine DOps.st 61 rfl rfl (op_move rfl rfl ⟨rfl, rfl⟩) ?_
        refine DOps.st 62 rfl rfl (op_index rfl te_78 rfl (.seq _ _) rfl rfl (by assumption) ⟨rfl, rfl⟩) ?_
        first | (refine DOps.st 63 rfl rfl (op_load_m (cs' := [_, _, _, _, _, _]) (i := 0) rfl ta_124 rfl rfl rfl rfl ⟨rfl, rfl⟩) ?_) | (refine DOps.st 63 rfl rfl (op_load_m (cs' := [_, _, _, _, _, _]) (i := 1) rfl ta_124 rfl rfl rfl rfl ⟨rfl, rfl⟩) ?_) | (refine DOps.st 63 rfl rfl (op_load_m (cs' := [_, _, _, _, _, _]) (i := 2) rfl ta_124 rfl rfl rfl rfl ⟨rfl, rfl⟩) ?_) | (refine DOps.st 63 rfl rfl (op_load_m (cs' := [_, _, _, _, _, _]) (i := 3) rfl ta_124 rfl rfl rfl rfl ⟨rfl, rfl⟩) ?_) | (refine DOps.st 63 rfl rfl (op_load_m (cs' := [_, _, _, _, _, _]) (i := 4) rfl ta_124 rfl rfl rfl rfl ⟨rfl, rfl⟩) ?_) | (refine DOps.st 63 rfl rfl (op_load_m (cs' := [_, _, _, _, _, _]) (i := 5) rfl ta_124 rfl rfl rfl rfl ⟨rfl, rfl⟩) ?_) | (refine DOps.st 63 rfl rfl (op_load_c (cs' := [_, _, _, _, _, _]) rfl ta_124 rfl rfl rfl ⟨rfl, rfl⟩) ?_)
        refine DOps.st 64 rfl rfl (op_fieldAddr_c rfl tf_81_1 rfl rfl ⟨rfl, rfl⟩) ?_
        refine DOps.st 65 rfl rfl (op_load_c1 rfl ta_78 rfl rfl ⟨rfl, rfl⟩) ?_
        refine DOps.st 66 rfl rfl (op_move rfl rfl ⟨rfl, rfl⟩) ?_
        refine DOps.st 67 rfl rfl (op_index rfl te_78 rfl (.seq _ _) rfl rfl (by assumption) ⟨rfl, rfl⟩) ?_
        first | (refine DOps.st 68 rfl rfl (op_load_m (cs' := [_, _, _, _, _, _]) (i := 0) rfl ta_124 rfl rfl rfl rfl ⟨rfl, rfl⟩) ?_) | (refine DOps.st 68 rfl rfl (op_load_m (cs' := [_, _, _, _, _, _]) (i := 1) rfl ta_124 rfl rfl rfl rfl ⟨rfl, rfl⟩) ?_) | (refine DOps.st 68 rfl rfl (op_load_m (cs' := [_, _, _, _, _, _]) (i := 2) rfl ta_124 rfl rfl rfl rfl ⟨rfl, rfl⟩) ?_) | (refine DOps.st 68 rfl rfl (op_load_m (cs' := [_, _, _, _, _, _]) (i := 3) rfl ta_124 rfl rfl rfl rfl ⟨rfl, rfl⟩) ?_) | (refine DOps.st 68 rfl rfl (op_load_m (cs' := [_, _, _, _, _, _]) (i := 4) rfl ta_124 rfl rfl rfl rfl ⟨rfl, rfl⟩) ?_) | (refine DOps.st 68 rfl rfl (op_load_m (cs' := [_, _, _, _, _, _]) (i := 5) rfl ta_124 rfl rfl rfl rfl ⟨rfl, rfl⟩) ?_) | (refine DOps.st 68 rfl rfl (op_load_c (cs' := [_, _, _, _, _, _]) rfl ta_124 rfl rfl rfl ⟨rfl, rfl⟩) ?_)
        refine DOps.cm 69 rfl rfl (fun _ q => op_callb (xs := [.tmp 63, .tmp 68]) rfl rfl (rSameClass_c ⟨xs, xv, xsu, xms, xds, xp⟩ ⟨ys, yv, ysu, yms, yds, yp⟩) (by first | exact Les.refl _ | (repeat' (first | exact Les.refl _ | refine Les.cons ?_ ?_ | exact Le.refl _ | exact Le.own _ _ _ | exact Le.nil _ | refine Le.agg ?_))) q) ?_; intro c69 h69
        refine DOps.cm 70 rfl rfl (fun _ q => op_notc rfl rfl q) ?_; intro c70 h70
        try replace h70 := nott h70 h69
        show AGo _ _ _ _ _ _ _
        refine go_code ?_
        rcases bool_split h70 with ⟨rfl, g70⟩ | ⟨rfl, g70⟩
        · refine c_cond_f rfl ?_
          refine c_skip ?_
          refine go_blk ?_
          refine go_code ?_
          refine c_region ?_
          refine AOps.st 57 rfl rfl rfl (op_move rfl rfl ?_)
          refine AOps.st 58 rfl rfl rfl (op_add rfl rfl rfl (IntWalk.i64_in _ (by omega)) ?_)
          refine AOps.st 6 rfl rfl rfl (op_assign rfl rfl ?_)
          refine AOps.nil ?_
          refine go_lp ?_
          exact ⟨i + 1, ⟨by omega, upto_map Cl.key hu hxx hxy (Classical.not_not.1 g70)⟩, by simp; omega, (by repeat' (first | exact SLe.nil _ | refine SLe.cons rfl ?_ ?_ | exact Le.refl _ | exact Le.own _ _ _ | exact Le.nil _)), (by first | exact MLe.none _ | exact MLe.refl _ | (repeat' (first | exact MLe.nil | exact MLe.refl _ | refine MLe.cons _ ?_ | refine MLe.drop _ ?_)))⟩
        · refine c_cond_t rfl ?_
          refine c_seq ?_
          refine c_region ?_
          refine AOps.st 4 rfl rfl rfl (op_assign rfl rfl ?_)
          refine AOps.nil ?_
          refine go_code ?_
          refine c_ret ?_
          exact out_tmp rfl rfl (Le.refl _) (by first | exact MLe.none _ | exact MLe.refl _ | (repeat' (first | exact MLe.nil | exact MLe.refl _ | refine MLe.cons _ ?_ | refine MLe.drop _ ?_))) ⟨⟨_, iff_f (fun e => map_ne Cl.key hxx hxy g70 e.2.1), rfl⟩, rfl⟩
    · refine c_cond_t rfl ?_
      refine c_skip ?_
      refine go_code ?_
      refine c_seq ?_
      refine c_block ?_
      refine c_seq ?_
      obtain ⟨⟨xs, xps, xcs, xdv, xp⟩, hxx⟩ := get_some (l := da1) (i := i) (by first | omega | (simp at *; omega))
      have hcx := Da.cellss_get hxx
      have hmx := List.mem_of_getElem? hxx
      obtain ⟨⟨ys, yps, ycs, ydv, yp⟩, hxy⟩ := get_some (l := da2) (i := i) (by first | omega | (simp at *; omega))
      have hcy := Da.cellss_get hxy
      have hmy := List.mem_of_getElem? hxy
      refine c_drawn tmix rfl ?_
      refine DOps.st 40 rfl rfl (op_fieldAddr_c rfl tf_81_0 rfl rfl ⟨rfl, rfl⟩) ?_
      refine DOps.st 41 rfl rfl (op_load_c1 rfl ta_77 rfl rfl ⟨rfl, rfl⟩) ?_
      refine DOps.st 42 rfl rfl (op_move rfl rfl ⟨rfl, rfl⟩) ?_
      refine DOps.st 43 rfl rfl (op_index rfl te_77 rfl (.seq _ _) rfl rfl (by assumption) ⟨rfl, rfl⟩) ?_
      first | (refine DOps.st 44 rfl rfl (op_load_m (cs' := [_, _, _, _, _]) (i := 0) rfl ta_130 rfl rfl rfl rfl ⟨rfl, rfl⟩) ?_) | (refine DOps.st 44 rfl rfl (op_load_m (cs' := [_, _, _, _, _]) (i := 1) rfl ta_130 rfl rfl rfl rfl ⟨rfl, rfl⟩) ?_) | (refine DOps.st 44 rfl rfl (op_load_m (cs' := [_, _, _, _, _]) (i := 2) rfl ta_130 rfl rfl rfl rfl ⟨rfl, rfl⟩) ?_) | (refine DOps.st 44 rfl rfl (op_load_m (cs' := [_, _, _, _, _]) (i := 3) rfl ta_130 rfl rfl rfl rfl ⟨rfl, rfl⟩) ?_) | (refine DOps.st 44 rfl rfl (op_load_m (cs' := [_, _, _, _, _]) (i := 4) rfl ta_130 rfl rfl rfl rfl ⟨rfl, rfl⟩) ?_) | (refine DOps.st 44 rfl rfl (op_load_m (cs' := [_, _, _, _, _]) (i := 5) rfl ta_130 rfl rfl rfl rfl ⟨rfl, rfl⟩) ?_) | (refine DOps.st 44 rfl rfl (op_load_c (cs' := [_, _, _, _, _]) rfl ta_130 rfl rfl rfl ⟨rfl, rfl⟩) ?_)
      refine DOps.st 45 rfl rfl (op_fieldAddr_c rfl tf_81_0 rfl rfl ⟨rfl, rfl⟩) ?_
      refine DOps.st 46 rfl rfl (op_load_c1 rfl ta_77 rfl rfl ⟨rfl, rfl⟩) ?_
      refine DOps.st 47 rfl rfl (op_move rfl rfl ⟨rfl, rfl⟩) ?_
      refine DOps.st 48 rfl rfl (op_index rfl te_77 rfl (.seq _ _) rfl rfl (by assumption) ⟨rfl, rfl⟩) ?_
      first | (refine DOps.st 49 rfl rfl (op_load_m (cs' := [_, _, _, _, _]) (i := 0) rfl ta_130 rfl rfl rfl rfl ⟨rfl, rfl⟩) ?_) | (refine DOps.st 49 rfl rfl (op_load_m (cs' := [_, _, _, _, _]) (i := 1) rfl ta_130 rfl rfl rfl rfl ⟨rfl, rfl⟩) ?_) | (refine DOps.st 49 rfl rfl (op_load_m (cs' := [_, _, _, _, _]) (i := 2) rfl ta_130 rfl rfl rfl rfl ⟨rfl, rfl⟩) ?_) | (refine DOps.st 49 rfl rfl (op_load_m (cs' := [_, _, _, _, _]) (i := 3) rfl ta_130 rfl rfl rfl rfl ⟨rfl, rfl⟩) ?_) | (refine DOps.st 49 rfl rfl (op_load_m (cs' := [_, _, _, _, _]) (i := 4) rfl ta_130 rfl rfl rfl rfl ⟨rfl, rfl⟩) ?_) | (refine DOps.st 49 rfl rfl (op_load_m (cs' := [_, _, _, _, _]) (i := 5) rfl ta_130 rfl rfl rfl rfl ⟨rfl, rfl⟩) ?_) | (refine DOps.st 49 rfl rfl (op_load_c (cs' := [_, _, _, _, _]) rfl ta_130 rfl rfl rfl ⟨rfl, rfl⟩) ?_)
      refine DOps.cm 50 rfl rfl (fun _ q => op_callb (xs := [.tmp 44, .tmp 49]) rfl rfl (rSameData_c ⟨xs, xps, xcs, xdv, xp⟩ ⟨ys, yps, ycs, ydv, yp⟩) (by first | exact Les.refl _ | (repeat' (first | exact Les.refl _ | refine Les.cons ?_ ?_ | exact Le.refl _ | exact Le.own _ _ _ | exact Le.nil _ | refine Le.agg ?_))) q) ?_; intro c50 h50
      refine DOps.cm 51 rfl rfl (fun _ q => op_notc rfl rfl q) ?_; intro c51 h51
      try replace h51 := nott h51 h50
      show AGo _ _ _ _ _ _ _
      refine go_code ?_
      rcases bool_split h51 with ⟨rfl, g51⟩ | ⟨rfl, g51⟩
      · refine c_cond_f rfl ?_
        refine c_skip ?_
        refine go_blk ?_
        refine go_code ?_
        refine c_region ?_
        refine AOps.st 38 rfl rfl rfl (op_move rfl rfl ?_)
        refine AOps.st 39 rfl rfl rfl (op_add rfl rfl rfl (IntWalk.i64_in _ (by omega)) ?_)
        refine AOps.st 5 rfl rfl rfl (op_assign rfl rfl ?_)
        refine AOps.nil ?_
        refine go_lp ?_
        exact ⟨i + 1, ⟨by omega, upto_map Da.key hu hxx hxy (Classical.not_not.1 g51)⟩, by simp; omega, (by repeat' (first | exact SLe.nil _ | refine SLe.cons rfl ?_ ?_ | exact Le.refl _ | exact Le.own _ _ _ | exact Le.nil _)), (by first | exact MLe.none _ | exact MLe.refl _ | (repeat' (first | exact MLe.nil | exact MLe.refl _ | refine MLe.cons _ ?_ | refine MLe.drop _ ?_)))⟩
      · refine c_cond_t rfl ?_
        refine c_seq ?_
        refine c_region ?_
        refine AOps.st 4 rfl rfl rfl (op_assign rfl rfl ?_)
        refine AOps.nil ?_
        refine go_code ?_
        refine c_ret ?_
        exact out_tmp rfl rfl (Le.refl _) (by first | exact MLe.none _ | exact MLe.refl _ | (repeat' (first | exact MLe.nil | exact MLe.refl _ | refine MLe.cons _ ?_ | refine MLe.drop _ ?_))) ⟨⟨_, iff_f (fun e => map_ne Da.key hxx hxy g51 e.1), rfl⟩, rfl⟩
  · refine c_cond_t rfl ?_
    refine c_seq ?_
    refine c_region ?_
    refine AOps.st 4 rfl rfl rfl (op_assign rfl rfl ?_)
    refine AOps.nil ?_
    refine go_code ?_
    refine c_ret ?_
    exact out_tmp rfl rfl (Le.refl _) (by first | exact MLe.none _ | exact MLe.refl _ | (repeat' (first | exact MLe.nil | exact MLe.refl _ | refine MLe.cons _ ?_ | refine MLe.drop _ ?_))) ⟨⟨_, iff_f (fun ⟨e1, e2, e3, _⟩ => g32 ⟨by simpa using congrArg List.length e1, by simpa using congrArg List.length e2, by simpa using congrArg List.length e3⟩), rfl⟩, rfl⟩
end Go.Proofs.Ytjgjnheeohfmmaa
