/- cognatelaw05.Few: it answers a bool. -/
import Derived.Test.YtjgjnheeohfmmaaB05k
namespace Go.Proofs.Ytjgjnheeohfmmaa
open Go.RowKit
set_option maxHeartbeats 4000000 in
set_option maxRecDepth 100000 in
theorem Few_z (a : Pg) (hL : a.Lim) : ZCall Try.prog 57 [.agg a.cells] := by
  obtain ⟨da, cl, ins, bs⟩ := a
  obtain ⟨⟨_, _⟩, ⟨_, hcl⟩, ⟨_, hin⟩, _, hbs⟩ := hL
  have hl1 := Da.cellss_len da
  have hl2 := Cl.cellss_len cl
  have hl3 := In.cellss_len ins
  have hl4 := Bi.cellss_len bs
  refine ACall.enter Try.func57 rfl (by kernel_rfl) rfl (Nat.le_of_ble_eq_true rfl) ?_
  refine c_start ?_
  refine c_lena (t := 0) (j := 0) rfl rfl (.seq _ _) (fun hmax => ?_)
  refine c_lena (t := 0) (j := 1) rfl rfl (.seq _ _) (fun hmax2 => ?_)
  refine c_lena (t := 0) (j := 2) rfl rfl (.seq _ _) (fun hmax3 => ?_)
  refine c_lena (t := 0) (j := 3) rfl rfl (.seq _ _) (fun hmax4 => ?_)
  refine c_seq ?_
  refine c_region ?_
  refine AOps.st 1 rfl rfl rfl (op_boxc (cs' := [_, _, _, _]) rfl rfl rfl rfl ?_)
  refine AOps.st 2 rfl rfl rfl (op_assign rfl rfl ?_)
  refine AOps.nil ?_
  refine go_code ?_
  refine c_seq ?_
  refine c_seq ?_
  refine c_bool 36 (¬ (da.length ≤ 20 ∧ cl.length ≤ 20 ∧ ins.length ≤ 20 ∧ bs.length ≤ 40)) ?_ _ _ rfl ?_
  · skip
    refine AOps.st 15 rfl rfl rfl (op_fieldAddr_c rfl tf_81_0 rfl rfl ?_)
    refine AOps.st 16 rfl rfl rfl (op_load_c1 rfl ta_77 rfl rfl ?_)
    refine AOps.st 17 rfl rfl rfl (op_len rfl tu_77 rfl (.seq _ _) (fun n17 => ?_))
    refine AOps.st 18 rfl rfl rfl (op_gtr rfl rfl rfl ?_); intro c18 h18
    refine AOps.st 19 rfl rfl rfl (op_move rfl rfl ?_)
    rcases bool_split h18 with ⟨rfl, g18⟩ | ⟨rfl, g18⟩
    · skip
      refine AOps.gt 20 rfl rfl rfl rfl rfl (op_fieldAddr_c rfl tf_81_1 rfl rfl ?_)
      refine AOps.gt 21 rfl rfl rfl rfl rfl (op_load_c1 rfl ta_78 rfl rfl ?_)
      refine AOps.gt 22 rfl rfl rfl rfl rfl (op_len rfl tu_78 rfl (.seq _ _) (fun n22 => ?_))
      refine AOps.gt 23 rfl rfl rfl rfl rfl (op_gtr rfl rfl rfl ?_); intro c23 h23
      refine AOps.st 24 rfl rfl rfl (op_pick rfl rfl rfl ?_)
      refine AOps.st 25 rfl rfl rfl (op_move rfl rfl ?_)
      rcases bool_split h23 with ⟨rfl, g23⟩ | ⟨rfl, g23⟩
      · skip
        refine AOps.gt 26 rfl rfl rfl rfl rfl (op_fieldAddr_c rfl tf_81_2 rfl rfl ?_)
        refine AOps.gt 27 rfl rfl rfl rfl rfl (op_load_c1 rfl ta_79 rfl rfl ?_)
        refine AOps.gt 28 rfl rfl rfl rfl rfl (op_len rfl tu_79 rfl (.seq _ _) (fun n28 => ?_))
        refine AOps.gt 29 rfl rfl rfl rfl rfl (op_gtr rfl rfl rfl ?_); intro c29 h29
        refine AOps.st 30 rfl rfl rfl (op_pick rfl rfl rfl ?_)
        refine AOps.st 31 rfl rfl rfl (op_move rfl rfl ?_)
        rcases bool_split h29 with ⟨rfl, g29⟩ | ⟨rfl, g29⟩
        · skip
          refine AOps.gt 32 rfl rfl rfl rfl rfl (op_fieldAddr_c rfl tf_81_3 rfl rfl ?_)
          refine AOps.gt 33 rfl rfl rfl rfl rfl (op_load_c1 rfl ta_58 rfl rfl ?_)
          refine AOps.gt 34 rfl rfl rfl rfl rfl (op_len rfl tu_58 rfl (.seq _ _) (fun n34 => ?_))
          refine AOps.gt 35 rfl rfl rfl rfl rfl (op_gtr rfl rfl rfl ?_); intro c35 h35
          refine AOps.st 36 rfl rfl rfl (op_pick rfl rfl rfl ?_)
          refine AOps.nil ?_
          refine BoolQ.mk rfl ?_ (by repeat' (first | exact SLe.wo _ _ | exact SLe.refl _ | refine SLe.fresh rfl ?_)) (by first | exact MLe.none _ | exact MLe.refl _ | (repeat' (first | exact MLe.nil | exact MLe.refl _ | refine MLe.cons _ ?_ | refine MLe.drop _ ?_)))
          first | (simp_all; done) | (simp_all; omega)
        · skip
          refine AOps.gf 32 rfl rfl rfl rfl rfl ?_
          refine AOps.gf 33 rfl rfl rfl rfl rfl ?_
          refine AOps.gf 34 rfl rfl rfl rfl rfl ?_
          refine AOps.gf 35 rfl rfl rfl rfl rfl ?_
          refine AOps.st 36 rfl rfl rfl (op_pick rfl rfl rfl ?_)
          refine AOps.nil ?_
          refine BoolQ.mk rfl ?_ (by repeat' (first | exact SLe.wo _ _ | exact SLe.refl _ | refine SLe.fresh rfl ?_)) (by first | exact MLe.none _ | exact MLe.refl _ | (repeat' (first | exact MLe.nil | exact MLe.refl _ | refine MLe.cons _ ?_ | refine MLe.drop _ ?_)))
          first | (simp_all; done) | (simp_all; omega)
      · skip
        refine AOps.gf 26 rfl rfl rfl rfl rfl ?_
        refine AOps.gf 27 rfl rfl rfl rfl rfl ?_
        refine AOps.gf 28 rfl rfl rfl rfl rfl ?_
        refine AOps.gf 29 rfl rfl rfl rfl rfl ?_
        refine AOps.st 30 rfl rfl rfl (op_pick rfl rfl rfl ?_)
        refine AOps.st 31 rfl rfl rfl (op_move rfl rfl ?_)
        refine AOps.gf 32 rfl rfl rfl rfl rfl ?_
        refine AOps.gf 33 rfl rfl rfl rfl rfl ?_
        refine AOps.gf 34 rfl rfl rfl rfl rfl ?_
        refine AOps.gf 35 rfl rfl rfl rfl rfl ?_
        refine AOps.st 36 rfl rfl rfl (op_pick rfl rfl rfl ?_)
        refine AOps.nil ?_
        refine BoolQ.mk rfl ?_ (by repeat' (first | exact SLe.wo _ _ | exact SLe.refl _ | refine SLe.fresh rfl ?_)) (by first | exact MLe.none _ | exact MLe.refl _ | (repeat' (first | exact MLe.nil | exact MLe.refl _ | refine MLe.cons _ ?_ | refine MLe.drop _ ?_)))
        first | (simp_all; done) | (simp_all; omega)
    · skip
      refine AOps.gf 20 rfl rfl rfl rfl rfl ?_
      refine AOps.gf 21 rfl rfl rfl rfl rfl ?_
      refine AOps.gf 22 rfl rfl rfl rfl rfl ?_
      refine AOps.gf 23 rfl rfl rfl rfl rfl ?_
      refine AOps.st 24 rfl rfl rfl (op_pick rfl rfl rfl ?_)
      refine AOps.st 25 rfl rfl rfl (op_move rfl rfl ?_)
      refine AOps.gf 26 rfl rfl rfl rfl rfl ?_
      refine AOps.gf 27 rfl rfl rfl rfl rfl ?_
      refine AOps.gf 28 rfl rfl rfl rfl rfl ?_
      refine AOps.gf 29 rfl rfl rfl rfl rfl ?_
      refine AOps.st 30 rfl rfl rfl (op_pick rfl rfl rfl ?_)
      refine AOps.st 31 rfl rfl rfl (op_move rfl rfl ?_)
      refine AOps.gf 32 rfl rfl rfl rfl rfl ?_
      refine AOps.gf 33 rfl rfl rfl rfl rfl ?_
      refine AOps.gf 34 rfl rfl rfl rfl rfl ?_
      refine AOps.gf 35 rfl rfl rfl rfl rfl ?_
      refine AOps.st 36 rfl rfl rfl (op_pick rfl rfl rfl ?_)
      refine AOps.nil ?_
      refine BoolQ.mk rfl ?_ (by repeat' (first | exact SLe.wo _ _ | exact SLe.refl _ | refine SLe.fresh rfl ?_)) (by first | exact MLe.none _ | exact MLe.refl _ | (repeat' (first | exact MLe.nil | exact MLe.refl _ | refine MLe.cons _ ?_ | refine MLe.drop _ ?_)))
      first | (simp_all; done) | (simp_all; omega)
  intro c36 h36
  refine go_code ?_
  rcases bool_split h36 with ⟨rfl, g36⟩ | ⟨rfl, g36⟩
  · refine c_cond_f rfl ?_
    refine c_skip ?_
    refine go_code ?_
    refine c_seq ?_
    refine c_seq ?_
    refine c_region ?_
    refine AOps.st 37 rfl rfl rfl (op_fieldAddr_c rfl tf_81_1 rfl rfl ?_)
    refine AOps.st 38 rfl rfl rfl (op_load_c1 rfl ta_78 rfl rfl ?_)
    refine AOps.st 39 rfl rfl rfl (op_len rfl tu_78 rfl (.seq _ _) (fun n39 => ?_))
    refine AOps.st 40 rfl rfl rfl (op_move rfl rfl ?_)
    refine AOps.nil ?_
    refine go_code ?_
    refine c_block ?_
    apply c_loopkm [0, 2, 3, 4, 5, 6, 7, 9, 11, 13, 15, 16, 17, 18, 19, 20, 21, 22, 23, 24, 25, 26, 27, 28, 29, 30, 31, 32, 33, 34, 35, 36, 37, 40, 41, 42, 43, 44, 45, 46, 47, 48, 49, 50, 51, 52, 53, 54, 55, 56, 57, 58, 59, 60, 61, 62, 63, 64, 65, 66, 67, 68, 69, 70, 71, 72] (σ := Nat) (fun zz => match zz with | i => [(40, .val (.int .i64 i))]) (fun zz => match zz with | i => i ≤ cl.length) (fun zz => match zz with | i => cl.length - i) (0)
    · repeat' (first | exact Drops.nil | apply Drops.keep rfl | apply Drops.skip rfl)
    · exact Nat.zero_le _
    · exact (by repeat' (first | exact SLe.nil _ | refine SLe.cons rfl ?_ ?_ | exact Le.refl _ | exact Le.own _ _ _ | exact Le.nil _))
    rintro i hI
    try dsimp only [List.cons_append, List.nil_append] at hI ⊢
    refine c_seq ?_
    refine c_region ?_
    refine AOps.st 41 rfl rfl rfl (op_lss rfl rfl rfl ?_); intro c41 h41
    refine AOps.nil ?_
    refine go_code ?_
    refine c_seq ?_
    rcases bool_split h41 with ⟨rfl, g41⟩ | ⟨rfl, g41⟩
    · refine c_cond_f rfl ?_
      refine c_exit ?_
      refine x_code ?_
      refine x_lp ?_
      refine x_here ?_
      refine go_code ?_
      refine c_seq ?_
      refine c_seq ?_
      refine c_region ?_
      refine AOps.st 73 rfl rfl rfl (op_fieldAddr_c rfl tf_81_2 rfl rfl ?_)
      refine AOps.st 74 rfl rfl rfl (op_load_c1 rfl ta_79 rfl rfl ?_)
      refine AOps.st 75 rfl rfl rfl (op_len rfl tu_79 rfl (.seq _ _) (fun n75 => ?_))
      refine AOps.st 76 rfl rfl rfl (op_move rfl rfl ?_)
      refine AOps.nil ?_
      refine go_code ?_
      refine c_block ?_
      apply c_loopkm [0, 2, 3, 4, 5, 6, 7, 8, 9, 10, 11, 13, 15, 16, 17, 18, 19, 20, 21, 22, 23, 24, 25, 26, 27, 28, 29, 30, 31, 32, 33, 34, 35, 36, 37, 38, 39, 40, 41, 42, 43, 44, 45, 46, 47, 48, 49, 50, 51, 52, 53, 54, 55, 56, 57, 58, 59, 60, 61, 62, 63, 64, 65, 66, 67, 68, 69, 70, 71, 72, 73, 76, 77, 78, 79, 80, 81, 82, 83, 84, 85, 86, 87, 88, 89, 90, 91, 92, 93, 94, 95, 96, 97, 98, 99, 100, 101, 102, 103, 104, 105, 106, 107, 108, 109] (σ := Nat) (fun zz => match zz with | i => [(76, .val (.int .i64 i))]) (fun zz => match zz with | i => i ≤ ins.length) (fun zz => match zz with | i => ins.length - i) (0)
      · repeat' (first | exact Drops.nil | apply Drops.keep rfl | apply Drops.skip rfl)
      · exact Nat.zero_le _
      · exact (by repeat' (first | exact SLe.nil _ | refine SLe.cons rfl ?_ ?_ | exact Le.refl _ | exact Le.own _ _ _ | exact Le.nil _))
      rintro i hI
      try dsimp only [List.cons_append, List.nil_append] at hI ⊢
      refine c_seq ?_
      refine c_region ?_
      refine AOps.st 77 rfl rfl rfl (op_lss rfl rfl rfl ?_); intro c77 h77
      refine AOps.nil ?_
      refine go_code ?_
      refine c_seq ?_
      rcases bool_split h77 with ⟨rfl, g77⟩ | ⟨rfl, g77⟩
      · refine c_cond_f rfl ?_
        refine c_exit ?_
        refine x_code ?_
        refine x_lp ?_
        refine x_here ?_
        refine go_code ?_
        refine c_seq ?_
        refine c_seq ?_
        refine c_region ?_
        refine AOps.st 110 rfl rfl rfl (op_fieldAddr_c rfl tf_81_0 rfl rfl ?_)
        refine AOps.st 111 rfl rfl rfl (op_load_c1 rfl ta_77 rfl rfl ?_)
        refine AOps.st 112 rfl rfl rfl (op_len rfl tu_77 rfl (.seq _ _) (fun n112 => ?_))
        refine AOps.st 113 rfl rfl rfl (op_move rfl rfl ?_)
        refine AOps.nil ?_
        refine go_code ?_
        refine c_block ?_
        apply c_loopkm [0, 2, 3, 4, 5, 6, 7, 8, 9, 10, 11, 12, 13, 15, 16, 17, 18, 19, 20, 21, 22, 23, 24, 25, 26, 27, 28, 29, 30, 31, 32, 33, 34, 35, 36, 37, 38, 39, 40, 41, 42, 43, 44, 45, 46, 47, 48, 49, 50, 51, 52, 53, 54, 55, 56, 57, 58, 59, 60, 61, 62, 63, 64, 65, 66, 67, 68, 69, 70, 71, 72, 73, 74, 75, 76, 77, 78, 79, 80, 81, 82, 83, 84, 85, 86, 87, 88, 89, 90, 91, 92, 93, 94, 95, 96, 97, 98, 99, 100, 101, 102, 103, 104, 105, 106, 107, 108, 109, 110, 113, 114, 115, 116, 117, 118, 119, 120, 121, 122, 123, 124, 125, 126, 127, 128, 129, 130, 131, 132, 133] (σ := Nat) (fun zz => match zz with | i => [(113, .val (.int .i64 i))]) (fun zz => match zz with | i => i ≤ da.length) (fun zz => match zz with | i => da.length - i) (0)
        · repeat' (first | exact Drops.nil | apply Drops.keep rfl | apply Drops.skip rfl)
        · exact Nat.zero_le _
        · exact (by repeat' (first | exact SLe.nil _ | refine SLe.cons rfl ?_ ?_ | exact Le.refl _ | exact Le.own _ _ _ | exact Le.nil _))
        rintro i hI
        try dsimp only [List.cons_append, List.nil_append] at hI ⊢
        refine c_seq ?_
        refine c_region ?_
        refine AOps.st 114 rfl rfl rfl (op_lss rfl rfl rfl ?_); intro c114 h114
        refine AOps.nil ?_
        refine go_code ?_
        refine c_seq ?_
        rcases bool_split h114 with ⟨rfl, g114⟩ | ⟨rfl, g114⟩
        · refine c_cond_f rfl ?_
          refine c_exit ?_
          refine x_code ?_
          refine x_lp ?_
          refine x_here ?_
          refine go_code ?_
          refine c_seq ?_
          refine c_seq ?_
          refine c_region ?_
          refine AOps.st 134 rfl rfl rfl (op_fieldAddr_c rfl tf_81_3 rfl rfl ?_)
          refine AOps.st 135 rfl rfl rfl (op_load_c1 rfl ta_58 rfl rfl ?_)
          refine AOps.st 136 rfl rfl rfl (op_len rfl tu_58 rfl (.seq _ _) (fun n136 => ?_))
          refine AOps.st 137 rfl rfl rfl (op_move rfl rfl ?_)
          refine AOps.nil ?_
          refine go_code ?_
          refine c_block ?_
          apply c_loopkm [0, 1, 2, 3, 4, 5, 6, 7, 8, 9, 10, 11, 12, 13, 14, 15, 16, 17, 18, 19, 20, 21, 22, 23, 24, 25, 26, 27, 28, 29, 30, 31, 32, 33, 34, 35, 36, 37, 38, 39, 40, 41, 42, 43, 44, 45, 46, 47, 48, 49, 50, 51, 52, 53, 54, 55, 56, 57, 58, 59, 60, 61, 62, 63, 64, 65, 66, 67, 68, 69, 70, 71, 72, 73, 74, 75, 76, 77, 78, 79, 80, 81, 82, 83, 84, 85, 86, 87, 88, 89, 90, 91, 92, 93, 94, 95, 96, 97, 98, 99, 100, 101, 102, 103, 104, 105, 106, 107, 108, 109, 110, 111, 112, 113, 114, 115, 116, 117, 118, 119, 120, 121, 122, 123, 124, 125, 126, 127, 128, 129, 130, 131, 132, 133, 134, 137, 138, 139, 140, 141, 142, 143, 144, 145] (σ := Nat) (fun zz => match zz with | i => [(137, .val (.int .i64 i))]) (fun zz => match zz with | i => i ≤ bs.length) (fun zz => match zz with | i => bs.length - i) (0)
          · repeat' (first | exact Drops.nil | apply Drops.keep rfl | apply Drops.skip rfl)
          · exact Nat.zero_le _
          · exact (by repeat' (first | exact SLe.nil _ | refine SLe.cons rfl ?_ ?_ | exact Le.refl _ | exact Le.own _ _ _ | exact Le.nil _))
          rintro i hI
          try dsimp only [List.cons_append, List.nil_append] at hI ⊢
          refine c_seq ?_
          refine c_region ?_
          refine AOps.st 138 rfl rfl rfl (op_lss rfl rfl rfl ?_); intro c138 h138
          refine AOps.nil ?_
          refine go_code ?_
          refine c_seq ?_
          rcases bool_split h138 with ⟨rfl, g138⟩ | ⟨rfl, g138⟩
          · refine c_cond_f rfl ?_
            refine c_exit ?_
            refine x_code ?_
            refine x_lp ?_
            refine x_here ?_
            refine go_code ?_
            refine c_seq ?_
            refine c_region ?_
            refine AOps.st 2 rfl rfl rfl (op_assign rfl rfl ?_)
            refine AOps.nil ?_
            refine go_code ?_
            refine c_ret ?_
            exact out_tmp rfl rfl (Le.refl _) (by first | exact MLe.none _ | exact MLe.refl _ | (repeat' (first | exact MLe.nil | exact MLe.refl _ | refine MLe.cons _ ?_ | refine MLe.drop _ ?_))) ⟨⟨_, rfl⟩, rfl⟩
          · refine c_cond_t rfl ?_
            refine c_skip ?_
            refine go_code ?_
            refine c_seq ?_
            refine c_block ?_
            refine c_seq ?_
            obtain ⟨⟨xb, ⟨xk, xs, xn, ⟨xtk, xts, xtn, xtl⟩, xks, xal, xbs, xp⟩, xq⟩, hxx⟩ := get_some (l := bs) (i := i) (by first | omega | (simp at *; omega))
            have hcx := Bi.cellss_get hxx
            have hmx := List.mem_of_getElem? hxx
            refine c_region ?_
            refine AOps.st 139 rfl rfl rfl (op_index rfl te_58 rfl (.seq _ _) rfl rfl (by assumption) ?_)
            first | (refine AOps.st 140 rfl rfl rfl (op_load_m (cs' := [_, _, _, _, _, _, _, _, _, _, _, _, _]) (i := 0) rfl ta_74 rfl rfl rfl rfl ?_)) | (refine AOps.st 140 rfl rfl rfl (op_load_m (cs' := [_, _, _, _, _, _, _, _, _, _, _, _, _]) (i := 1) rfl ta_74 rfl rfl rfl rfl ?_)) | (refine AOps.st 140 rfl rfl rfl (op_load_m (cs' := [_, _, _, _, _, _, _, _, _, _, _, _, _]) (i := 2) rfl ta_74 rfl rfl rfl rfl ?_)) | (refine AOps.st 140 rfl rfl rfl (op_load_m (cs' := [_, _, _, _, _, _, _, _, _, _, _, _, _]) (i := 3) rfl ta_74 rfl rfl rfl rfl ?_)) | (refine AOps.st 140 rfl rfl rfl (op_load_m (cs' := [_, _, _, _, _, _, _, _, _, _, _, _, _]) (i := 4) rfl ta_74 rfl rfl rfl rfl ?_)) | (refine AOps.st 140 rfl rfl rfl (op_load_m (cs' := [_, _, _, _, _, _, _, _, _, _, _, _, _]) (i := 5) rfl ta_74 rfl rfl rfl rfl ?_)) | (refine AOps.st 140 rfl rfl rfl (op_load_c (cs' := [_, _, _, _, _, _, _, _, _, _, _, _, _]) rfl ta_74 rfl rfl rfl ?_))
            refine AOps.st 14 rfl rfl rfl (op_alloce (cs' := [_, _, _, _, _, _, _, _, _, _, _, _, _]) rfl tz_74 rfl rfl ?_); intro b14
            refine AOps.st0 rfl rfl (op_store (cs' := [_, _, _, _, _, _, _, _, _, _, _, _, _]) (i := 0) rfl ts_74 rfl rfl rfl rfl rfl (Nat.le_of_ble_eq_true rfl) rfl ?_)
            refine AOps.nil ?_
            refine go_code ?_
            refine c_seq ?_
            refine c_region ?_
            refine AOps.st 141 rfl rfl rfl (op_fieldAddr_m rfl tf_74_1 rfl ?_)
            refine AOps.st 142 rfl rfl rfl (op_load_m (cs' := [_, _, _, _, _, _, _, _, _, _, _]) (i := 0) rfl ta_60 rfl rfl rfl rfl ?_)
            refine AOps.st 143 rfl rfl rfl (op_callb (xs := [.tmp 142, .const (.int .i64 1000)]) rfl rfl (Small5_c _ 1000 (by have := hbs _ hmx; rw [Bi.Lim] at this; exact this) (by omega) (by omega)) (by first | exact Les.refl _ | (repeat' (first | exact Les.refl _ | refine Les.cons ?_ ?_ | exact Le.refl _ | exact Le.own _ _ _ | exact Le.nil _ | refine Le.agg ?_))) ?_); intro c143 h143
            refine AOps.st 144 rfl rfl rfl (op_notc rfl rfl ?_); intro c144 h144
            try replace h144 := nott h144 h143
            refine AOps.nil ?_
            refine go_code ?_
            rcases bool_split h144 with ⟨rfl, g144⟩ | ⟨rfl, g144⟩
            · refine c_cond_f rfl ?_
              refine c_skip ?_
              refine go_blk ?_
              refine go_code ?_
              refine c_region ?_
              refine AOps.st 145 rfl rfl rfl (op_add rfl rfl rfl (IntWalk.i64_in _ (by omega)) ?_)
              refine AOps.st 137 rfl rfl rfl (op_move rfl rfl ?_)
              refine AOps.nil ?_
              refine go_lp ?_
              exact ⟨i + 1, by show i + 1 ≤ _; omega, by simp; omega, (by repeat' (first | exact SLe.nil _ | refine SLe.cons rfl ?_ ?_ | exact Le.refl _ | exact Le.own _ _ _ | exact Le.nil _)), (by first | exact MLe.none _ | exact MLe.refl _ | (repeat' (first | exact MLe.nil | exact MLe.refl _ | refine MLe.cons _ ?_ | refine MLe.drop _ ?_)))⟩
            · refine c_cond_t rfl ?_
              refine c_seq ?_
              refine c_region ?_
              refine AOps.st 2 rfl rfl rfl (op_assign rfl rfl ?_)
              refine AOps.nil ?_
              refine go_code ?_
              refine c_ret ?_
              exact out_tmp rfl rfl (Le.refl _) (by first | exact MLe.none _ | exact MLe.refl _ | (repeat' (first | exact MLe.nil | exact MLe.refl _ | refine MLe.cons _ ?_ | refine MLe.drop _ ?_))) ⟨⟨_, rfl⟩, rfl⟩
        · refine c_cond_t rfl ?_
          refine c_skip ?_
          refine go_code ?_
          refine c_seq ?_
          refine c_block ?_
          refine c_seq ?_
          obtain ⟨⟨xs, xps, xcs, xdv, xp⟩, hxx⟩ := get_some (l := da) (i := i) (by first | omega | (simp at *; omega))
          have hcx := Da.cellss_get hxx
          have hmx := List.mem_of_getElem? hxx
          refine c_region ?_
          refine AOps.st 115 rfl rfl rfl (op_index rfl te_77 rfl (.seq _ _) rfl rfl (by assumption) ?_)
          first | (refine AOps.st 116 rfl rfl rfl (op_load_m (cs' := [_, _, _, _, _]) (i := 0) rfl ta_130 rfl rfl rfl rfl ?_)) | (refine AOps.st 116 rfl rfl rfl (op_load_m (cs' := [_, _, _, _, _]) (i := 1) rfl ta_130 rfl rfl rfl rfl ?_)) | (refine AOps.st 116 rfl rfl rfl (op_load_m (cs' := [_, _, _, _, _]) (i := 2) rfl ta_130 rfl rfl rfl rfl ?_)) | (refine AOps.st 116 rfl rfl rfl (op_load_m (cs' := [_, _, _, _, _]) (i := 3) rfl ta_130 rfl rfl rfl rfl ?_)) | (refine AOps.st 116 rfl rfl rfl (op_load_m (cs' := [_, _, _, _, _]) (i := 4) rfl ta_130 rfl rfl rfl rfl ?_)) | (refine AOps.st 116 rfl rfl rfl (op_load_m (cs' := [_, _, _, _, _]) (i := 5) rfl ta_130 rfl rfl rfl rfl ?_)) | (refine AOps.st 116 rfl rfl rfl (op_load_c (cs' := [_, _, _, _, _]) rfl ta_130 rfl rfl rfl ?_))
          refine AOps.st 12 rfl rfl rfl (op_alloce (cs' := [_, _, _, _, _]) rfl tz_130 rfl rfl ?_); intro b12
          refine AOps.st0 rfl rfl (op_store (cs' := [_, _, _, _, _]) (i := 0) rfl ts_130 rfl rfl rfl rfl rfl (Nat.le_of_ble_eq_true rfl) rfl ?_)
          refine AOps.nil ?_
          refine go_code ?_
          refine c_seq ?_
          refine c_bool 132 (¬ ((Cn.cellss xcs).length ≤ 20 ∧ (strs xps).length ≤ 20 ∧ (strs xdv).length ≤ 20)) ?_ _ _ rfl ?_
          · skip
            refine AOps.st 117 rfl rfl rfl (op_fieldAddr_m rfl tf_130_2 rfl ?_)
            refine AOps.st 118 rfl rfl rfl (op_load_m1 (i := 0) rfl ta_128 rfl rfl rfl ?_)
            refine AOps.st 119 rfl rfl rfl (op_len rfl tu_128 rfl (.seq _ _) (fun n119 => ?_))
            refine AOps.st 120 rfl rfl rfl (op_gtr rfl rfl rfl ?_); intro c120 h120
            refine AOps.st 121 rfl rfl rfl (op_move rfl rfl ?_)
            rcases bool_split h120 with ⟨rfl, g120⟩ | ⟨rfl, g120⟩
            · skip
              refine AOps.gt 122 rfl rfl rfl rfl rfl (op_fieldAddr_m rfl tf_130_1 rfl ?_)
              refine AOps.gt 123 rfl rfl rfl rfl rfl (op_load_m1 (i := 0) rfl ta_27 rfl rfl rfl ?_)
              refine AOps.gt 124 rfl rfl rfl rfl rfl (op_len rfl tu_27 rfl (.seq _ _) (fun n124 => ?_))
              refine AOps.gt 125 rfl rfl rfl rfl rfl (op_gtr rfl rfl rfl ?_); intro c125 h125
              refine AOps.st 126 rfl rfl rfl (op_pick rfl rfl rfl ?_)
              refine AOps.st 127 rfl rfl rfl (op_move rfl rfl ?_)
              rcases bool_split h125 with ⟨rfl, g125⟩ | ⟨rfl, g125⟩
              · skip
                refine AOps.gt 128 rfl rfl rfl rfl rfl (op_fieldAddr_m rfl tf_130_3 rfl ?_)
                refine AOps.gt 129 rfl rfl rfl rfl rfl (op_load_m1 (i := 0) rfl ta_27 rfl rfl rfl ?_)
                refine AOps.gt 130 rfl rfl rfl rfl rfl (op_len rfl tu_27 rfl (.seq _ _) (fun n130 => ?_))
                refine AOps.gt 131 rfl rfl rfl rfl rfl (op_gtr rfl rfl rfl ?_); intro c131 h131
                refine AOps.st 132 rfl rfl rfl (op_pick rfl rfl rfl ?_)
                refine AOps.nil ?_
                refine BoolQ.mk rfl ?_ (by repeat' (first | exact SLe.wo _ _ | exact SLe.refl _ | refine SLe.fresh rfl ?_)) (by first | exact MLe.none _ | exact MLe.refl _ | (repeat' (first | exact MLe.nil | exact MLe.refl _ | refine MLe.cons _ ?_ | refine MLe.drop _ ?_)))
                first | (simp_all; done) | (simp_all; omega)
              · skip
                refine AOps.gf 128 rfl rfl rfl rfl rfl ?_
                refine AOps.gf 129 rfl rfl rfl rfl rfl ?_
                refine AOps.gf 130 rfl rfl rfl rfl rfl ?_
                refine AOps.gf 131 rfl rfl rfl rfl rfl ?_
                refine AOps.st 132 rfl rfl rfl (op_pick rfl rfl rfl ?_)
                refine AOps.nil ?_
                refine BoolQ.mk rfl ?_ (by repeat' (first | exact SLe.wo _ _ | exact SLe.refl _ | refine SLe.fresh rfl ?_)) (by first | exact MLe.none _ | exact MLe.refl _ | (repeat' (first | exact MLe.nil | exact MLe.refl _ | refine MLe.cons _ ?_ | refine MLe.drop _ ?_)))
                first | (simp_all; done) | (simp_all; omega)
            · skip
              refine AOps.gf 122 rfl rfl rfl rfl rfl ?_
              refine AOps.gf 123 rfl rfl rfl rfl rfl ?_
              refine AOps.gf 124 rfl rfl rfl rfl rfl ?_
              refine AOps.gf 125 rfl rfl rfl rfl rfl ?_
              refine AOps.st 126 rfl rfl rfl (op_pick rfl rfl rfl ?_)
              refine AOps.st 127 rfl rfl rfl (op_move rfl rfl ?_)
              refine AOps.gf 128 rfl rfl rfl rfl rfl ?_
              refine AOps.gf 129 rfl rfl rfl rfl rfl ?_
              refine AOps.gf 130 rfl rfl rfl rfl rfl ?_
              refine AOps.gf 131 rfl rfl rfl rfl rfl ?_
              refine AOps.st 132 rfl rfl rfl (op_pick rfl rfl rfl ?_)
              refine AOps.nil ?_
              refine BoolQ.mk rfl ?_ (by repeat' (first | exact SLe.wo _ _ | exact SLe.refl _ | refine SLe.fresh rfl ?_)) (by first | exact MLe.none _ | exact MLe.refl _ | (repeat' (first | exact MLe.nil | exact MLe.refl _ | refine MLe.cons _ ?_ | refine MLe.drop _ ?_)))
              first | (simp_all; done) | (simp_all; omega)
          intro c132 h132
          refine go_code ?_
          rcases bool_split h132 with ⟨rfl, g132⟩ | ⟨rfl, g132⟩
          · refine c_cond_f rfl ?_
            refine c_skip ?_
            refine go_blk ?_
            refine go_code ?_
            refine c_region ?_
            refine AOps.st 133 rfl rfl rfl (op_add rfl rfl rfl (IntWalk.i64_in _ (by omega)) ?_)
            refine AOps.st 113 rfl rfl rfl (op_move rfl rfl ?_)
            refine AOps.nil ?_
            refine go_lp ?_
            exact ⟨i + 1, by show i + 1 ≤ _; omega, by simp; omega, (by repeat' (first | exact SLe.nil _ | refine SLe.cons rfl ?_ ?_ | exact Le.refl _ | exact Le.own _ _ _ | exact Le.nil _)), (by first | exact MLe.none _ | exact MLe.refl _ | (repeat' (first | exact MLe.nil | exact MLe.refl _ | refine MLe.cons _ ?_ | refine MLe.drop _ ?_)))⟩
          · refine c_cond_t rfl ?_
            refine c_seq ?_
            refine c_region ?_
            refine AOps.st 2 rfl rfl rfl (op_assign rfl rfl ?_)
            refine AOps.nil ?_
            refine go_code ?_
            refine c_ret ?_
            exact out_tmp rfl rfl (Le.refl _) (by first | exact MLe.none _ | exact MLe.refl _ | (repeat' (first | exact MLe.nil | exact MLe.refl _ | refine MLe.cons _ ?_ | refine MLe.drop _ ?_))) ⟨⟨_, rfl⟩, rfl⟩
      · refine c_cond_t rfl ?_
        refine c_skip ?_
        refine go_code ?_
        refine c_seq ?_
        refine c_block ?_
        refine c_seq ?_
        obtain ⟨⟨xc, ⟨xhdk, xhds, xhdn, xhdl⟩, xcx, xbs, xp⟩, hxx⟩ := get_some (l := ins) (i := i) (by first | omega | (simp at *; omega))
        have hcx := In.cellss_get hxx
        have hmx := List.mem_of_getElem? hxx
        refine c_region ?_
        refine AOps.st 78 rfl rfl rfl (op_index rfl te_79 rfl (.seq _ _) rfl rfl (by assumption) ?_)
        first | (refine AOps.st 79 rfl rfl rfl (op_load_m (cs' := [_, _, _, _, _, _, _, _]) (i := 0) rfl ta_127 rfl rfl rfl rfl ?_)) | (refine AOps.st 79 rfl rfl rfl (op_load_m (cs' := [_, _, _, _, _, _, _, _]) (i := 1) rfl ta_127 rfl rfl rfl rfl ?_)) | (refine AOps.st 79 rfl rfl rfl (op_load_m (cs' := [_, _, _, _, _, _, _, _]) (i := 2) rfl ta_127 rfl rfl rfl rfl ?_)) | (refine AOps.st 79 rfl rfl rfl (op_load_m (cs' := [_, _, _, _, _, _, _, _]) (i := 3) rfl ta_127 rfl rfl rfl rfl ?_)) | (refine AOps.st 79 rfl rfl rfl (op_load_m (cs' := [_, _, _, _, _, _, _, _]) (i := 4) rfl ta_127 rfl rfl rfl rfl ?_)) | (refine AOps.st 79 rfl rfl rfl (op_load_m (cs' := [_, _, _, _, _, _, _, _]) (i := 5) rfl ta_127 rfl rfl rfl rfl ?_)) | (refine AOps.st 79 rfl rfl rfl (op_load_c (cs' := [_, _, _, _, _, _, _, _]) rfl ta_127 rfl rfl rfl ?_))
        refine AOps.st 8 rfl rfl rfl (op_alloce (cs' := [_, _, _, _, _, _, _, _]) rfl tz_127 rfl rfl ?_); intro b8
        refine AOps.st0 rfl rfl (op_store (cs' := [_, _, _, _, _, _, _, _]) (i := 0) rfl ts_127 rfl rfl rfl rfl rfl (Nat.le_of_ble_eq_true rfl) rfl ?_)
        refine AOps.nil ?_
        refine go_code ?_
        refine c_seq ?_
        refine c_seq ?_
        have hlx := Bi.cellss_len xbs
        have hLx := hin _ hmx
        obtain ⟨_, _, _, hds⟩ := hLx
        refine c_bool 96 (¬ ((Bi.cellss xbs).length ≤ 20 ∧ (Pr.cellss xcx).length ≤ 20 ∧ (Ty.cellss xhdl).length ≤ 20)) ?_ _ _ rfl ?_
        · skip
          refine AOps.st 80 rfl rfl rfl (op_fieldAddr_m rfl tf_127_3 rfl ?_)
          refine AOps.st 81 rfl rfl rfl (op_load_m1 (i := 0) rfl ta_58 rfl rfl rfl ?_)
          refine AOps.st 82 rfl rfl rfl (op_len rfl tu_58 rfl (.seq _ _) (fun n82 => ?_))
          refine AOps.st 83 rfl rfl rfl (op_gtr rfl rfl rfl ?_); intro c83 h83
          refine AOps.st 84 rfl rfl rfl (op_move rfl rfl ?_)
          rcases bool_split h83 with ⟨rfl, g83⟩ | ⟨rfl, g83⟩
          · skip
            refine AOps.gt 85 rfl rfl rfl rfl rfl (op_fieldAddr_m rfl tf_127_2 rfl ?_)
            refine AOps.gt 86 rfl rfl rfl rfl rfl (op_load_m1 (i := 0) rfl ta_125 rfl rfl rfl ?_)
            refine AOps.gt 87 rfl rfl rfl rfl rfl (op_len rfl tu_125 rfl (.seq _ _) (fun n87 => ?_))
            refine AOps.gt 88 rfl rfl rfl rfl rfl (op_gtr rfl rfl rfl ?_); intro c88 h88
            refine AOps.st 89 rfl rfl rfl (op_pick rfl rfl rfl ?_)
            refine AOps.st 90 rfl rfl rfl (op_move rfl rfl ?_)
            rcases bool_split h88 with ⟨rfl, g88⟩ | ⟨rfl, g88⟩
            · skip
              refine AOps.gt 91 rfl rfl rfl rfl rfl (op_fieldAddr_m rfl tf_127_1 rfl ?_)
              refine AOps.gt 92 rfl rfl rfl rfl rfl (op_fieldAddr_m rfl tf_24_3 rfl ?_)
              refine AOps.gt 93 rfl rfl rfl rfl rfl (op_load_m1 (i := 0) rfl ta_22 rfl rfl rfl ?_)
              refine AOps.gt 94 rfl rfl rfl rfl rfl (op_len rfl tu_22 rfl (.seq _ _) (fun n94 => ?_))
              refine AOps.gt 95 rfl rfl rfl rfl rfl (op_gtr rfl rfl rfl ?_); intro c95 h95
              refine AOps.st 96 rfl rfl rfl (op_pick rfl rfl rfl ?_)
              refine AOps.nil ?_
              refine BoolQ.mk rfl ?_ (by repeat' (first | exact SLe.wo _ _ | exact SLe.refl _ | refine SLe.fresh rfl ?_)) (by first | exact MLe.none _ | exact MLe.refl _ | (repeat' (first | exact MLe.nil | exact MLe.refl _ | refine MLe.cons _ ?_ | refine MLe.drop _ ?_)))
              first | (simp_all; done) | (simp_all; omega)
            · skip
              refine AOps.gf 91 rfl rfl rfl rfl rfl ?_
              refine AOps.gf 92 rfl rfl rfl rfl rfl ?_
              refine AOps.gf 93 rfl rfl rfl rfl rfl ?_
              refine AOps.gf 94 rfl rfl rfl rfl rfl ?_
              refine AOps.gf 95 rfl rfl rfl rfl rfl ?_
              refine AOps.st 96 rfl rfl rfl (op_pick rfl rfl rfl ?_)
              refine AOps.nil ?_
              refine BoolQ.mk rfl ?_ (by repeat' (first | exact SLe.wo _ _ | exact SLe.refl _ | refine SLe.fresh rfl ?_)) (by first | exact MLe.none _ | exact MLe.refl _ | (repeat' (first | exact MLe.nil | exact MLe.refl _ | refine MLe.cons _ ?_ | refine MLe.drop _ ?_)))
              first | (simp_all; done) | (simp_all; omega)
          · skip
            refine AOps.gf 85 rfl rfl rfl rfl rfl ?_
            refine AOps.gf 86 rfl rfl rfl rfl rfl ?_
            refine AOps.gf 87 rfl rfl rfl rfl rfl ?_
            refine AOps.gf 88 rfl rfl rfl rfl rfl ?_
            refine AOps.st 89 rfl rfl rfl (op_pick rfl rfl rfl ?_)
            refine AOps.st 90 rfl rfl rfl (op_move rfl rfl ?_)
            refine AOps.gf 91 rfl rfl rfl rfl rfl ?_
            refine AOps.gf 92 rfl rfl rfl rfl rfl ?_
            refine AOps.gf 93 rfl rfl rfl rfl rfl ?_
            refine AOps.gf 94 rfl rfl rfl rfl rfl ?_
            refine AOps.gf 95 rfl rfl rfl rfl rfl ?_
            refine AOps.st 96 rfl rfl rfl (op_pick rfl rfl rfl ?_)
            refine AOps.nil ?_
            refine BoolQ.mk rfl ?_ (by repeat' (first | exact SLe.wo _ _ | exact SLe.refl _ | refine SLe.fresh rfl ?_)) (by first | exact MLe.none _ | exact MLe.refl _ | (repeat' (first | exact MLe.nil | exact MLe.refl _ | refine MLe.cons _ ?_ | refine MLe.drop _ ?_)))
            first | (simp_all; done) | (simp_all; omega)
        intro c96 h96
        refine go_code ?_
        rcases bool_split h96 with ⟨rfl, g96⟩ | ⟨rfl, g96⟩
        · refine c_cond_f rfl ?_
          refine c_skip ?_
          refine go_code ?_
          refine c_seq ?_
          refine c_region ?_
          refine AOps.st 97 rfl rfl rfl (op_fieldAddr_m rfl tf_127_3 rfl ?_)
          refine AOps.st 98 rfl rfl rfl (op_load_m1 (i := 0) rfl ta_58 rfl rfl rfl ?_)
          refine AOps.st 99 rfl rfl rfl (op_len rfl tu_58 rfl (.seq _ _) (fun n99 => ?_))
          refine AOps.st 100 rfl rfl rfl (op_move rfl rfl ?_)
          refine AOps.nil ?_
          refine go_code ?_
          refine c_block ?_
          apply c_loopkm [0, 2, 3, 4, 5, 6, 7, 9, 10, 11, 13, 15, 16, 17, 18, 19, 20, 21, 22, 23, 24, 25, 26, 27, 28, 29, 30, 31, 32, 33, 34, 35, 36, 37, 38, 39, 40, 41, 42, 43, 44, 45, 46, 47, 48, 49, 50, 51, 52, 53, 54, 55, 56, 57, 58, 59, 60, 61, 62, 63, 64, 65, 66, 67, 68, 69, 70, 71, 72, 73, 100, 101, 102, 103, 104, 105, 106, 107, 108] (σ := Nat) (fun zz => match zz with | j => [(100, .val (.int .i64 j))]) (fun zz => match zz with | j => j ≤ xbs.length) (fun zz => match zz with | j => xbs.length - j) (0)
          · repeat' (first | exact Drops.nil | apply Drops.keep rfl | apply Drops.skip rfl)
          · exact Nat.zero_le _
          · exact (by repeat' (first | exact SLe.nil _ | refine SLe.cons rfl ?_ ?_ | exact Le.refl _ | exact Le.own _ _ _ | exact Le.nil _))
          rintro j hI
          try dsimp only [List.cons_append, List.nil_append] at hI ⊢
          refine c_seq ?_
          refine c_region ?_
          refine AOps.st 101 rfl rfl rfl (op_lss rfl rfl rfl ?_); intro c101 h101
          refine AOps.nil ?_
          refine go_code ?_
          refine c_seq ?_
          rcases bool_split h101 with ⟨rfl, g101⟩ | ⟨rfl, g101⟩
          · refine c_cond_f rfl ?_
            refine c_exit ?_
            refine x_code ?_
            refine x_lp ?_
            refine x_here ?_
            refine go_blk ?_
            refine go_code ?_
            refine c_region ?_
            refine AOps.st 109 rfl rfl rfl (op_add rfl rfl rfl (IntWalk.i64_in _ (by omega)) ?_)
            refine AOps.st 76 rfl rfl rfl (op_move rfl rfl ?_)
            refine AOps.nil ?_
            refine go_lp ?_
            exact ⟨i + 1, by show i + 1 ≤ _; omega, by simp; omega, (by repeat' (first | exact SLe.nil _ | refine SLe.cons rfl ?_ ?_ | exact Le.refl _ | exact Le.own _ _ _ | exact Le.nil _)), (by first | exact MLe.none _ | exact MLe.refl _ | (repeat' (first | exact MLe.nil | exact MLe.refl _ | refine MLe.cons _ ?_ | refine MLe.drop _ ?_)))⟩
          · refine c_cond_t rfl ?_
            refine c_skip ?_
            refine go_code ?_
            refine c_seq ?_
            refine c_block ?_
            refine c_seq ?_
            obtain ⟨⟨yb, ⟨yk, ys, yn, ⟨ytk, yts, ytn, ytl⟩, yks, yal, ybs, yp⟩, yq⟩, hxy⟩ := get_some (l := xbs) (i := j) (by first | omega | (simp at *; omega))
            have hcy := Bi.cellss_get hxy
            have hmy := List.mem_of_getElem? hxy
            refine c_region ?_
            refine AOps.st 102 rfl rfl rfl (op_index rfl te_58 rfl (.seq _ _) rfl rfl (by assumption) ?_)
            first | (refine AOps.st 103 rfl rfl rfl (op_load_m (cs' := [_, _, _, _, _, _, _, _, _, _, _, _, _]) (i := 0) rfl ta_74 rfl rfl rfl rfl ?_)) | (refine AOps.st 103 rfl rfl rfl (op_load_m (cs' := [_, _, _, _, _, _, _, _, _, _, _, _, _]) (i := 1) rfl ta_74 rfl rfl rfl rfl ?_)) | (refine AOps.st 103 rfl rfl rfl (op_load_m (cs' := [_, _, _, _, _, _, _, _, _, _, _, _, _]) (i := 2) rfl ta_74 rfl rfl rfl rfl ?_)) | (refine AOps.st 103 rfl rfl rfl (op_load_m (cs' := [_, _, _, _, _, _, _, _, _, _, _, _, _]) (i := 3) rfl ta_74 rfl rfl rfl rfl ?_)) | (refine AOps.st 103 rfl rfl rfl (op_load_m (cs' := [_, _, _, _, _, _, _, _, _, _, _, _, _]) (i := 4) rfl ta_74 rfl rfl rfl rfl ?_)) | (refine AOps.st 103 rfl rfl rfl (op_load_m (cs' := [_, _, _, _, _, _, _, _, _, _, _, _, _]) (i := 5) rfl ta_74 rfl rfl rfl rfl ?_)) | (refine AOps.st 103 rfl rfl rfl (op_load_c (cs' := [_, _, _, _, _, _, _, _, _, _, _, _, _]) rfl ta_74 rfl rfl rfl ?_))
            refine AOps.st 10 rfl rfl rfl (op_alloce (cs' := [_, _, _, _, _, _, _, _, _, _, _, _, _]) rfl tz_74 rfl rfl ?_); intro b10
            refine AOps.st0 rfl rfl (op_store (cs' := [_, _, _, _, _, _, _, _, _, _, _, _, _]) (i := 0) rfl ts_74 rfl rfl rfl rfl rfl (Nat.le_of_ble_eq_true rfl) rfl ?_)
            refine AOps.nil ?_
            refine go_code ?_
            refine c_seq ?_
            refine c_region ?_
            refine AOps.st 104 rfl rfl rfl (op_fieldAddr_m rfl tf_74_1 rfl ?_)
            refine AOps.st 105 rfl rfl rfl (op_load_m (cs' := [_, _, _, _, _, _, _, _, _, _, _]) (i := 0) rfl ta_60 rfl rfl rfl rfl ?_)
            refine AOps.st 106 rfl rfl rfl (op_callb (xs := [.tmp 105, .const (.int .i64 400)]) rfl rfl (Small5_c _ 400 (by have := hds _ hmy; rw [Bi.Lim] at this; exact this) (by omega) (by omega)) (by first | exact Les.refl _ | (repeat' (first | exact Les.refl _ | refine Les.cons ?_ ?_ | exact Le.refl _ | exact Le.own _ _ _ | exact Le.nil _ | refine Le.agg ?_))) ?_); intro c106 h106
            refine AOps.st 107 rfl rfl rfl (op_notc rfl rfl ?_); intro c107 h107
            try replace h107 := nott h107 h106
            refine AOps.nil ?_
            refine go_code ?_
            rcases bool_split h107 with ⟨rfl, g107⟩ | ⟨rfl, g107⟩
            · refine c_cond_f rfl ?_
              refine c_skip ?_
              refine go_blk ?_
              refine go_code ?_
              refine c_region ?_
              refine AOps.st 108 rfl rfl rfl (op_add rfl rfl rfl (IntWalk.i64_in _ (by omega)) ?_)
              refine AOps.st 100 rfl rfl rfl (op_move rfl rfl ?_)
              refine AOps.nil ?_
              refine go_lp ?_
              exact ⟨j + 1, by show j + 1 ≤ _; omega, by simp; omega, (by repeat' (first | exact SLe.nil _ | refine SLe.cons rfl ?_ ?_ | exact Le.refl _ | exact Le.own _ _ _ | exact Le.nil _)), (by first | exact MLe.none _ | exact MLe.refl _ | (repeat' (first | exact MLe.nil | exact MLe.refl _ | refine MLe.cons _ ?_ | refine MLe.drop _ ?_)))⟩
            · refine c_cond_t rfl ?_
              refine c_seq ?_
              refine c_region ?_
              refine AOps.st 2 rfl rfl rfl (op_assign rfl rfl ?_)
              refine AOps.nil ?_
              refine go_code ?_
              refine c_ret ?_
              exact out_tmp rfl rfl (Le.refl _) (by first | exact MLe.none _ | exact MLe.refl _ | (repeat' (first | exact MLe.nil | exact MLe.refl _ | refine MLe.cons _ ?_ | refine MLe.drop _ ?_))) ⟨⟨_, rfl⟩, rfl⟩
        · refine c_cond_t rfl ?_
          refine c_seq ?_
          refine c_region ?_
          refine AOps.st 2 rfl rfl rfl (op_assign rfl rfl ?_)
          refine AOps.nil ?_
          refine go_code ?_
          refine c_ret ?_
          exact out_tmp rfl rfl (Le.refl _) (by first | exact MLe.none _ | exact MLe.refl _ | (repeat' (first | exact MLe.nil | exact MLe.refl _ | refine MLe.cons _ ?_ | refine MLe.drop _ ?_))) ⟨⟨_, rfl⟩, rfl⟩
    · refine c_cond_t rfl ?_
      refine c_skip ?_
      refine go_code ?_
      refine c_seq ?_
      refine c_block ?_
      refine c_seq ?_
      obtain ⟨⟨xs, xv, xsu, xms, xds, xp⟩, hxx⟩ := get_some (l := cl) (i := i) (by first | omega | (simp at *; omega))
      have hcx := Cl.cellss_get hxx
      have hmx := List.mem_of_getElem? hxx
      refine c_region ?_
      refine AOps.st 42 rfl rfl rfl (op_index rfl te_78 rfl (.seq _ _) rfl rfl (by assumption) ?_)
      first | (refine AOps.st 43 rfl rfl rfl (op_load_m (cs' := [_, _, _, _, _, _]) (i := 0) rfl ta_124 rfl rfl rfl rfl ?_)) | (refine AOps.st 43 rfl rfl rfl (op_load_m (cs' := [_, _, _, _, _, _]) (i := 1) rfl ta_124 rfl rfl rfl rfl ?_)) | (refine AOps.st 43 rfl rfl rfl (op_load_m (cs' := [_, _, _, _, _, _]) (i := 2) rfl ta_124 rfl rfl rfl rfl ?_)) | (refine AOps.st 43 rfl rfl rfl (op_load_m (cs' := [_, _, _, _, _, _]) (i := 3) rfl ta_124 rfl rfl rfl rfl ?_)) | (refine AOps.st 43 rfl rfl rfl (op_load_m (cs' := [_, _, _, _, _, _]) (i := 4) rfl ta_124 rfl rfl rfl rfl ?_)) | (refine AOps.st 43 rfl rfl rfl (op_load_m (cs' := [_, _, _, _, _, _]) (i := 5) rfl ta_124 rfl rfl rfl rfl ?_)) | (refine AOps.st 43 rfl rfl rfl (op_load_c (cs' := [_, _, _, _, _, _]) rfl ta_124 rfl rfl rfl ?_))
      refine AOps.st 4 rfl rfl rfl (op_alloce (cs' := [_, _, _, _, _, _]) rfl tz_124 rfl rfl ?_); intro b4
      refine AOps.st0 rfl rfl (op_store (cs' := [_, _, _, _, _, _]) (i := 0) rfl ts_124 rfl rfl rfl rfl rfl (Nat.le_of_ble_eq_true rfl) rfl ?_)
      refine AOps.nil ?_
      refine go_code ?_
      refine c_seq ?_
      refine c_seq ?_
      have hlx := Bi.cellss_len xds
      have hLx := hcl _ hmx
      obtain ⟨_, _, _, hds⟩ := hLx
      refine c_bool 59 (¬ ((Me.cellss xms).length ≤ 20 ∧ (Bi.cellss xds).length ≤ 20 ∧ (strs xsu).length ≤ 20)) ?_ _ _ rfl ?_
      · skip
        refine AOps.st 44 rfl rfl rfl (op_fieldAddr_m rfl tf_124_3 rfl ?_)
        refine AOps.st 45 rfl rfl rfl (op_load_m1 (i := 0) rfl ta_122 rfl rfl rfl ?_)
        refine AOps.st 46 rfl rfl rfl (op_len rfl tu_122 rfl (.seq _ _) (fun n46 => ?_))
        refine AOps.st 47 rfl rfl rfl (op_gtr rfl rfl rfl ?_); intro c47 h47
        refine AOps.st 48 rfl rfl rfl (op_move rfl rfl ?_)
        rcases bool_split h47 with ⟨rfl, g47⟩ | ⟨rfl, g47⟩
        · skip
          refine AOps.gt 49 rfl rfl rfl rfl rfl (op_fieldAddr_m rfl tf_124_4 rfl ?_)
          refine AOps.gt 50 rfl rfl rfl rfl rfl (op_load_m1 (i := 0) rfl ta_58 rfl rfl rfl ?_)
          refine AOps.gt 51 rfl rfl rfl rfl rfl (op_len rfl tu_58 rfl (.seq _ _) (fun n51 => ?_))
          refine AOps.gt 52 rfl rfl rfl rfl rfl (op_gtr rfl rfl rfl ?_); intro c52 h52
          refine AOps.st 53 rfl rfl rfl (op_pick rfl rfl rfl ?_)
          refine AOps.st 54 rfl rfl rfl (op_move rfl rfl ?_)
          rcases bool_split h52 with ⟨rfl, g52⟩ | ⟨rfl, g52⟩
          · skip
            refine AOps.gt 55 rfl rfl rfl rfl rfl (op_fieldAddr_m rfl tf_124_2 rfl ?_)
            refine AOps.gt 56 rfl rfl rfl rfl rfl (op_load_m1 (i := 0) rfl ta_27 rfl rfl rfl ?_)
            refine AOps.gt 57 rfl rfl rfl rfl rfl (op_len rfl tu_27 rfl (.seq _ _) (fun n57 => ?_))
            refine AOps.gt 58 rfl rfl rfl rfl rfl (op_gtr rfl rfl rfl ?_); intro c58 h58
            refine AOps.st 59 rfl rfl rfl (op_pick rfl rfl rfl ?_)
            refine AOps.nil ?_
            refine BoolQ.mk rfl ?_ (by repeat' (first | exact SLe.wo _ _ | exact SLe.refl _ | refine SLe.fresh rfl ?_)) (by first | exact MLe.none _ | exact MLe.refl _ | (repeat' (first | exact MLe.nil | exact MLe.refl _ | refine MLe.cons _ ?_ | refine MLe.drop _ ?_)))
            first | (simp_all; done) | (simp_all; omega)
          · skip
            refine AOps.gf 55 rfl rfl rfl rfl rfl ?_
            refine AOps.gf 56 rfl rfl rfl rfl rfl ?_
            refine AOps.gf 57 rfl rfl rfl rfl rfl ?_
            refine AOps.gf 58 rfl rfl rfl rfl rfl ?_
            refine AOps.st 59 rfl rfl rfl (op_pick rfl rfl rfl ?_)
            refine AOps.nil ?_
            refine BoolQ.mk rfl ?_ (by repeat' (first | exact SLe.wo _ _ | exact SLe.refl _ | refine SLe.fresh rfl ?_)) (by first | exact MLe.none _ | exact MLe.refl _ | (repeat' (first | exact MLe.nil | exact MLe.refl _ | refine MLe.cons _ ?_ | refine MLe.drop _ ?_)))
            first | (simp_all; done) | (simp_all; omega)
        · skip
          refine AOps.gf 49 rfl rfl rfl rfl rfl ?_
          refine AOps.gf 50 rfl rfl rfl rfl rfl ?_
          refine AOps.gf 51 rfl rfl rfl rfl rfl ?_
          refine AOps.gf 52 rfl rfl rfl rfl rfl ?_
          refine AOps.st 53 rfl rfl rfl (op_pick rfl rfl rfl ?_)
          refine AOps.st 54 rfl rfl rfl (op_move rfl rfl ?_)
          refine AOps.gf 55 rfl rfl rfl rfl rfl ?_
          refine AOps.gf 56 rfl rfl rfl rfl rfl ?_
          refine AOps.gf 57 rfl rfl rfl rfl rfl ?_
          refine AOps.gf 58 rfl rfl rfl rfl rfl ?_
          refine AOps.st 59 rfl rfl rfl (op_pick rfl rfl rfl ?_)
          refine AOps.nil ?_
          refine BoolQ.mk rfl ?_ (by repeat' (first | exact SLe.wo _ _ | exact SLe.refl _ | refine SLe.fresh rfl ?_)) (by first | exact MLe.none _ | exact MLe.refl _ | (repeat' (first | exact MLe.nil | exact MLe.refl _ | refine MLe.cons _ ?_ | refine MLe.drop _ ?_)))
          first | (simp_all; done) | (simp_all; omega)
      intro c59 h59
      refine go_code ?_
      rcases bool_split h59 with ⟨rfl, g59⟩ | ⟨rfl, g59⟩
      · refine c_cond_f rfl ?_
        refine c_skip ?_
        refine go_code ?_
        refine c_seq ?_
        refine c_region ?_
        refine AOps.st 60 rfl rfl rfl (op_fieldAddr_m rfl tf_124_4 rfl ?_)
        refine AOps.st 61 rfl rfl rfl (op_load_m1 (i := 0) rfl ta_58 rfl rfl rfl ?_)
        refine AOps.st 62 rfl rfl rfl (op_len rfl tu_58 rfl (.seq _ _) (fun n62 => ?_))
        refine AOps.st 63 rfl rfl rfl (op_move rfl rfl ?_)
        refine AOps.nil ?_
        refine go_code ?_
        refine c_block ?_
        apply c_loopkm [0, 2, 3, 5, 6, 7, 9, 11, 13, 15, 16, 17, 18, 19, 20, 21, 22, 23, 24, 25, 26, 27, 28, 29, 30, 31, 32, 33, 34, 35, 36, 37, 63, 64, 65, 66, 67, 68, 69, 70, 71] (σ := Nat) (fun zz => match zz with | j => [(63, .val (.int .i64 j))]) (fun zz => match zz with | j => j ≤ xds.length) (fun zz => match zz with | j => xds.length - j) (0)
        · repeat' (first | exact Drops.nil | apply Drops.keep rfl | apply Drops.skip rfl)
        · exact Nat.zero_le _
        · exact (by repeat' (first | exact SLe.nil _ | refine SLe.cons rfl ?_ ?_ | exact Le.refl _ | exact Le.own _ _ _ | exact Le.nil _))
        rintro j hI
        try dsimp only [List.cons_append, List.nil_append] at hI ⊢
        refine c_seq ?_
        refine c_region ?_
        refine AOps.st 64 rfl rfl rfl (op_lss rfl rfl rfl ?_); intro c64 h64
        refine AOps.nil ?_
        refine go_code ?_
        refine c_seq ?_
        rcases bool_split h64 with ⟨rfl, g64⟩ | ⟨rfl, g64⟩
        · refine c_cond_f rfl ?_
          refine c_exit ?_
          refine x_code ?_
          refine x_lp ?_
          refine x_here ?_
          refine go_blk ?_
          refine go_code ?_
          refine c_region ?_
          refine AOps.st 72 rfl rfl rfl (op_add rfl rfl rfl (IntWalk.i64_in _ (by omega)) ?_)
          refine AOps.st 40 rfl rfl rfl (op_move rfl rfl ?_)
          refine AOps.nil ?_
          refine go_lp ?_
          exact ⟨i + 1, by show i + 1 ≤ _; omega, by simp; omega, (by repeat' (first | exact SLe.nil _ | refine SLe.cons rfl ?_ ?_ | exact Le.refl _ | exact Le.own _ _ _ | exact Le.nil _)), (by first | exact MLe.none _ | exact MLe.refl _ | (repeat' (first | exact MLe.nil | exact MLe.refl _ | refine MLe.cons _ ?_ | refine MLe.drop _ ?_)))⟩
        · refine c_cond_t rfl ?_
          refine c_skip ?_
          refine go_code ?_
          refine c_seq ?_
          refine c_block ?_
          refine c_seq ?_
          obtain ⟨⟨yb, ⟨yk, ys, yn, ⟨ytk, yts, ytn, ytl⟩, yks, yal, ybs, yp⟩, yq⟩, hxy⟩ := get_some (l := xds) (i := j) (by first | omega | (simp at *; omega))
          have hcy := Bi.cellss_get hxy
          have hmy := List.mem_of_getElem? hxy
          refine c_region ?_
          refine AOps.st 65 rfl rfl rfl (op_index rfl te_58 rfl (.seq _ _) rfl rfl (by assumption) ?_)
          first | (refine AOps.st 66 rfl rfl rfl (op_load_m (cs' := [_, _, _, _, _, _, _, _, _, _, _, _, _]) (i := 0) rfl ta_74 rfl rfl rfl rfl ?_)) | (refine AOps.st 66 rfl rfl rfl (op_load_m (cs' := [_, _, _, _, _, _, _, _, _, _, _, _, _]) (i := 1) rfl ta_74 rfl rfl rfl rfl ?_)) | (refine AOps.st 66 rfl rfl rfl (op_load_m (cs' := [_, _, _, _, _, _, _, _, _, _, _, _, _]) (i := 2) rfl ta_74 rfl rfl rfl rfl ?_)) | (refine AOps.st 66 rfl rfl rfl (op_load_m (cs' := [_, _, _, _, _, _, _, _, _, _, _, _, _]) (i := 3) rfl ta_74 rfl rfl rfl rfl ?_)) | (refine AOps.st 66 rfl rfl rfl (op_load_m (cs' := [_, _, _, _, _, _, _, _, _, _, _, _, _]) (i := 4) rfl ta_74 rfl rfl rfl rfl ?_)) | (refine AOps.st 66 rfl rfl rfl (op_load_m (cs' := [_, _, _, _, _, _, _, _, _, _, _, _, _]) (i := 5) rfl ta_74 rfl rfl rfl rfl ?_)) | (refine AOps.st 66 rfl rfl rfl (op_load_c (cs' := [_, _, _, _, _, _, _, _, _, _, _, _, _]) rfl ta_74 rfl rfl rfl ?_))
          refine AOps.st 6 rfl rfl rfl (op_alloce (cs' := [_, _, _, _, _, _, _, _, _, _, _, _, _]) rfl tz_74 rfl rfl ?_); intro b6
          refine AOps.st0 rfl rfl (op_store (cs' := [_, _, _, _, _, _, _, _, _, _, _, _, _]) (i := 0) rfl ts_74 rfl rfl rfl rfl rfl (Nat.le_of_ble_eq_true rfl) rfl ?_)
          refine AOps.nil ?_
          refine go_code ?_
          refine c_seq ?_
          refine c_region ?_
          refine AOps.st 67 rfl rfl rfl (op_fieldAddr_m rfl tf_74_1 rfl ?_)
          refine AOps.st 68 rfl rfl rfl (op_load_m (cs' := [_, _, _, _, _, _, _, _, _, _, _]) (i := 0) rfl ta_60 rfl rfl rfl rfl ?_)
          refine AOps.st 69 rfl rfl rfl (op_callb (xs := [.tmp 68, .const (.int .i64 400)]) rfl rfl (Small5_c _ 400 (by have := hds _ hmy; rw [Bi.Lim] at this; exact this) (by omega) (by omega)) (by first | exact Les.refl _ | (repeat' (first | exact Les.refl _ | refine Les.cons ?_ ?_ | exact Le.refl _ | exact Le.own _ _ _ | exact Le.nil _ | refine Le.agg ?_))) ?_); intro c69 h69
          refine AOps.st 70 rfl rfl rfl (op_notc rfl rfl ?_); intro c70 h70
          try replace h70 := nott h70 h69
          refine AOps.nil ?_
          refine go_code ?_
          rcases bool_split h70 with ⟨rfl, g70⟩ | ⟨rfl, g70⟩
          · refine c_cond_f rfl ?_
            refine c_skip ?_
            refine go_blk ?_
            refine go_code ?_
            refine c_region ?_
            refine AOps.st 71 rfl rfl rfl (op_add rfl rfl rfl (IntWalk.i64_in _ (by omega)) ?_)
            refine AOps.st 63 rfl rfl rfl (op_move rfl rfl ?_)
            refine AOps.nil ?_
            refine go_lp ?_
            exact ⟨j + 1, by show j + 1 ≤ _; omega, by simp; omega, (by repeat' (first | exact SLe.nil _ | refine SLe.cons rfl ?_ ?_ | exact Le.refl _ | exact Le.own _ _ _ | exact Le.nil _)), (by first | exact MLe.none _ | exact MLe.refl _ | (repeat' (first | exact MLe.nil | exact MLe.refl _ | refine MLe.cons _ ?_ | refine MLe.drop _ ?_)))⟩
          · refine c_cond_t rfl ?_
            refine c_seq ?_
            refine c_region ?_
            refine AOps.st 2 rfl rfl rfl (op_assign rfl rfl ?_)
            refine AOps.nil ?_
            refine go_code ?_
            refine c_ret ?_
            exact out_tmp rfl rfl (Le.refl _) (by first | exact MLe.none _ | exact MLe.refl _ | (repeat' (first | exact MLe.nil | exact MLe.refl _ | refine MLe.cons _ ?_ | refine MLe.drop _ ?_))) ⟨⟨_, rfl⟩, rfl⟩
      · refine c_cond_t rfl ?_
        refine c_seq ?_
        refine c_region ?_
        refine AOps.st 2 rfl rfl rfl (op_assign rfl rfl ?_)
        refine AOps.nil ?_
        refine go_code ?_
        refine c_ret ?_
        exact out_tmp rfl rfl (Le.refl _) (by first | exact MLe.none _ | exact MLe.refl _ | (repeat' (first | exact MLe.nil | exact MLe.refl _ | refine MLe.cons _ ?_ | refine MLe.drop _ ?_))) ⟨⟨_, rfl⟩, rfl⟩
  · refine c_cond_t rfl ?_
    refine c_seq ?_
    refine c_region ?_
    refine AOps.st 2 rfl rfl rfl (op_assign rfl rfl ?_)
    refine AOps.nil ?_
    refine go_code ?_
    refine c_ret ?_
    exact out_tmp rfl rfl (Le.refl _) (by first | exact MLe.none _ | exact MLe.refl _ | (repeat' (first | exact MLe.nil | exact MLe.refl _ | refine MLe.cons _ ?_ | refine MLe.drop _ ?_))) ⟨⟨_, rfl⟩, rfl⟩
end Go.Proofs.Ytjgjnheeohfmmaa
