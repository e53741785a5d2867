/- cognatelaw29.awake -/
import Derived.Test.YtadhakcmfkghbaaB29a
import Derived.Test.YtadhakcmfkghbaaB29v
namespace Go.Proofs.Ytadhakcmfkghbaa
open Go.RowKit
abbrev a0 : Ato := ⟨1, -1⟩
abbrev i0 : Is := ⟨7, 0, 0, 0, [a0], [], []⟩
abbrev f0 : Cf := ⟨1, 1, 0⟩
abbrev c0 : Cd := ⟨[i0], [f0], [], 300, 0, 0⟩
theorem c0_lim : c0.Lim := by
  simp [Cd.Lim, Is.Lim, Cf.Lim, Ato.Lim, I64]
theorem c0_right : RightP c0 := by
  simp [RightP, HeadP, FunsP, RefP, FixP, endP, AtomP, Cd.fu, Cd.tx, Cd.is, Cd.gl, Cd.ys, Cd.no, Cf.cp, Cf.len, Cf.sl, Is.op, Is.ar, Is.a, Is.b, Is.n, Is.fs, Is.cp, Ato.k, opA, opB, opN, one1, two2, lst3]
set_option maxHeartbeats 4000000 in
set_option maxRecDepth 100000 in
theorem ins0_w : Writes 31 (fun b => [.ptr b 0, .agg i0.cells]) (num 7 ++ atomsB [a0]) := by
  intro b bs M hM hb
  rw [List.length_append] at hb
  have HO : PCall Try.prog 41 [.val (.int .i64 7)] (.tup [.agg [.val (.bool false), .val (.bool false), .val (.bool false), .val (.bool false), .val (.int .i64 1)], .val (.bool true)]) := of_c 7
  have H1 := int_w 7 (by omega) b bs M hM (by omega)
  refine ACall.enter Try.func31 rfl (by kernel_rfl) rfl (Nat.le_of_ble_eq_true rfl) ?_
  refine c_start ?_
  refine c_seq ?_
  refine c_region ?_
  refine AOps.st 3 rfl rfl rfl (op_boxc (cs' := [_, _, _, _, _, _, _]) rfl rfl rfl rfl ?_)
  refine AOps.nil ?_
  refine go_code ?_
  refine c_seq ?_
  refine c_region ?_
  refine AOps.st 9 rfl rfl rfl (op_fieldAddr_c rfl tf_46_0 rfl rfl ?_)
  refine AOps.st 10 rfl rfl rfl (op_load_c1 rfl ta_3 rfl rfl ?_)
  refine AOps.st 11 rfl rfl rfl (op_callp (xs := [.tmp 10]) rfl rfl (HO) (by first | exact Les.refl _ | (repeat' (first | exact Les.refl _ | refine Les.cons ?_ ?_ | exact Le.refl _ | exact Le.own _ _ _ | exact Le.nil _ | refine Le.agg ?_))) ?_)
  refine AOps.st 8 rfl rfl rfl (op_move rfl rfl ?_)
  refine AOps.st 12 rfl rfl rfl (op_extract rfl rfl rfl ?_)
  refine AOps.st 13 rfl rfl rfl (op_extract rfl rfl rfl ?_)
  refine AOps.st 4 rfl rfl rfl (op_alloce (cs' := [_, _, _, _, _]) rfl tz_91 rfl rfl ?_); intro b4
  refine AOps.st0 rfl rfl (op_store (cs' := [_, _, _, _, _]) (i := 0) rfl ts_91 rfl rfl rfl rfl rfl (Nat.le_of_ble_eq_true rfl) rfl ?_)
  refine AOps.st 5 rfl rfl rfl (op_assign rfl rfl ?_)
  refine AOps.nil ?_
  refine go_code ?_
  refine c_seq ?_
  refine c_region ?_
  refine AOps.st 14 rfl rfl rfl (op_move rfl rfl ?_)
  refine AOps.st 15 rfl rfl rfl (op_fieldAddr_c rfl tf_46_0 rfl rfl ?_)
  refine AOps.st 16 rfl rfl rfl (op_load_c1 rfl ta_3 rfl rfl ?_)
  refine AOps.st 17 rfl rfl rfl (op_callm (xs := [.tmp 14, .tmp 16])  [.loc b4 _] rfl rfl rfl H1 (Les.refl _) (fun v17 M17 h17 => ?_))
  refine AOps.nil ?_
  refine go_code ?_
  refine c_seq ?_
  refine c_seq ?_
  refine c_region ?_
  refine AOps.st 18 rfl rfl rfl (op_fieldAddr_m rfl tf_91_0 rfl ?_)
  refine AOps.st 19 rfl rfl rfl (op_load_m1 (i := 0) rfl ta_4 rfl rfl rfl ?_)
  refine AOps.nil ?_
  refine go_code ?_
  refine c_cond_f rfl ?_
  refine c_skip ?_
  refine go_code ?_
  refine c_seq ?_
  refine c_seq ?_
  refine c_bool 29 (False) ?_ _ _ rfl ?_
  · skip
    refine AOps.st 24 rfl rfl rfl (op_fieldAddr_m rfl tf_91_2 rfl ?_)
    refine AOps.st 25 rfl rfl rfl (op_load_m1 (i := 0) rfl ta_4 rfl rfl rfl ?_)
    refine AOps.st 26 rfl rfl rfl (op_move rfl rfl ?_)
    refine AOps.gf 27 rfl rfl rfl rfl rfl ?_
    refine AOps.gf 28 rfl rfl rfl rfl rfl ?_
    refine AOps.st 29 rfl rfl rfl (op_pick rfl rfl rfl ?_)
    refine AOps.nil ?_
    refine BoolQ.mk rfl ?_ (by repeat' (first | exact SLe.wo _ _ | exact SLe.refl _ | refine SLe.fresh rfl ?_)) (by first | exact MLe.none _ | exact MLe.refl _ | (repeat' (first | exact MLe.nil | exact MLe.refl _ | refine MLe.cons _ ?_ | refine MLe.drop _ ?_)))
    simp_all; done
  intro c29 h29
  refine go_code ?_
  rcases bool_split h29 with ⟨rfl, g29⟩ | ⟨rfl, g29⟩
  · refine c_cond_f rfl ?_
    refine c_seq ?_
    refine c_region ?_
    refine AOps.st 34 rfl rfl rfl (op_fieldAddr_m rfl tf_91_2 rfl ?_)
    refine AOps.st 35 rfl rfl rfl (op_load_m1 (i := 0) rfl ta_4 rfl rfl rfl ?_)
    refine AOps.nil ?_
    refine go_code ?_
    refine c_cond_f rfl ?_
    refine c_skip ?_
    refine go_code ?_
    refine c_seq ?_
    refine c_seq ?_
    refine c_region ?_
    refine AOps.st 40 rfl rfl rfl (op_fieldAddr_m rfl tf_91_1 rfl ?_)
    refine AOps.st 41 rfl rfl rfl (op_load_m1 (i := 0) rfl ta_4 rfl rfl rfl ?_)
    refine AOps.nil ?_
    refine go_code ?_
    refine c_cond_f rfl ?_
    refine c_skip ?_
    refine go_code ?_
    refine c_seq ?_
    refine c_seq ?_
    refine c_region ?_
    refine AOps.st 46 rfl rfl rfl (op_fieldAddr_m rfl tf_91_4 rfl ?_)
    refine AOps.st 47 rfl rfl rfl (op_load_m1 (i := 0) rfl ta_3 rfl rfl rfl ?_)
    refine AOps.st 48 rfl rfl rfl (op_lss rfl rfl rfl ?_); intro c48 h48
    refine AOps.nil ?_
    refine go_code ?_
    rcases bool_split h48 with ⟨rfl, g48⟩ | ⟨rfl, g48⟩
    · refine c_cond_f rfl ?_
      refine c_skip ?_
      refine go_code ?_
      refine c_seq ?_
      have H2 := atoms_w [a0] (by simp [a0, Ato.k, Ato.n, Ato.Lim, I64]) b _ M17 h17 (by rw [List.length_append]; omega)
      rw [List.append_assoc] at H2
      refine c_region ?_
      refine AOps.st 54 rfl rfl rfl (op_move rfl rfl ?_)
      refine AOps.st 55 rfl rfl rfl (op_fieldAddr_c rfl tf_46_4 rfl rfl ?_)
      refine AOps.st 56 rfl rfl rfl (op_load_c1 rfl ta_42 rfl rfl ?_)
      refine AOps.st 57 rfl rfl rfl (op_callm (xs := [.tmp 54, .tmp 56])  [.loc b4 _] rfl rfl rfl H2 (Les.refl _) (fun v57 M57 h57 => ?_))
      refine AOps.nil ?_
      refine go_code ?_
      refine c_seq ?_
      refine c_region ?_
      refine AOps.st 58 rfl rfl rfl (op_fieldAddr_c rfl tf_46_0 rfl rfl ?_)
      refine AOps.st 59 rfl rfl rfl (op_load_c1 rfl ta_3 rfl rfl ?_)
      refine AOps.st 60 rfl rfl rfl (op_eql rfl rfl rfl ?_); intro c60 h60
      refine AOps.nil ?_
      refine go_code ?_
      rcases bool_split h60 with ⟨rfl, g60⟩ | ⟨rfl, g60⟩
      · refine c_cond_f rfl ?_
        refine c_skip ?_
        refine go_end ?_
        exact out_none rfl (MLe.drop _ (MLe.refl _)) h57
      · refine c_cond_t rfl ?_
        refine c_seq ?_
        exact absurd g60 (by decide)
    · refine c_cond_t rfl ?_
      exact absurd g48 (by decide)
  · refine c_cond_t rfl ?_
    exact g29.elim
def b1 : List Int := [199] ++ num 300 ++ num 0 ++ num 0 ++ num 0 ++ num 1
def b2 : List Int := b1 ++ num 1 ++ num 1 ++ num 0
def b3 : List Int := b2 ++ num 1
def b4 : List Int := b3 ++ (num 7 ++ atomsB [a0])
theorem b4_eq : b4 = [199, 172, 2, 0, 0, 0, 1, 1, 1, 0, 1, 7, 1, 1] := by
  have n0 : num 0 = [0] := num_lo (by decide)
  have n1 : num 1 = [1] := num_lo (by decide)
  have n7 : num 7 = [7] := num_lo (by decide)
  have n3 : num 300 = [172, 2] := by rw [num_hi (by decide), num_lo (by decide)]; decide
  have z : zz (-1) = 1 := by decide
  simp [b4, b3, b2, b1, atomsB, atomB, Ato.k, Ato.n, atomN_1, n0, n1, n7, n3, z]
theorem b4_len : b4.length = 14 := by rw [b4_eq]; rfl
set_option maxHeartbeats 4000000 in
set_option maxRecDepth 100000 in
theorem Encode0_c : PCall Try.prog 11 [.agg c0.cells] (.tup [.seq 1 (bts b4), .val (.int .i64 0)]) := by
  have HR := (Right_c c0 c0_lim).yes c0_right
  have hb4 := b4_len
  have hl4 : b4.length = b3.length + ((num 7).length + (atomsB [a0]).length) := by simp [b4]
  have hl3 : b3.length = b2.length + (num 1).length := by simp [b3]
  have hl2 : b2.length = b1.length + (num 1).length + (num 1).length + (num 0).length := by simp [b2]; omega
  have hl1 : b1.length = 1 + (num 300).length + (num 0).length + (num 0).length + (num 0).length + (num 1).length := by simp [b1]; omega
  refine ACall.enter Try.func11 rfl (by kernel_rfl) rfl (Nat.le_of_ble_eq_true rfl) ?_
  refine c_start ?_
  refine c_seq ?_
  refine c_region ?_
  refine AOps.st 1 rfl rfl rfl (op_boxc (cs' := [_, _, _, _, _, _]) rfl rfl rfl rfl ?_)
  refine AOps.st 2 rfl rfl rfl (op_assign rfl rfl ?_)
  refine AOps.st 3 rfl rfl rfl (op_assign rfl rfl ?_)
  refine AOps.nil ?_
  refine go_code ?_
  refine c_seq ?_
  refine c_seq ?_
  refine c_region ?_
  refine AOps.st 11 rfl rfl rfl (op_load_c (cs' := [_, _, _, _, _, _]) rfl ta_26 rfl rfl rfl ?_)
  refine AOps.st 12 rfl rfl rfl (op_callp (xs := [.tmp 11]) rfl rfl (HR) (by first | exact Les.refl _ | (repeat' (first | exact Les.refl _ | refine Les.cons ?_ ?_ | exact Le.refl _ | exact Le.own _ _ _ | exact Le.nil _ | refine Le.agg ?_))) ?_)
  refine AOps.st 13 rfl rfl rfl (op_notc rfl rfl ?_); intro c13 h13
  try replace h13 := nott h13 h12
  refine AOps.nil ?_
  refine go_code ?_
  rcases bool_split h13 with ⟨rfl, g13⟩ | ⟨rfl, g13⟩
  · refine c_cond_f rfl ?_
    refine c_skip ?_
    refine go_code ?_
    refine c_seq ?_
    refine c_region ?_
    refine AOps.st 14 rfl rfl rfl (op_buildSlice_own (xs := [.const (.int .u8 199)]) el_31 rfl rfl rfl rfl rfl rfl (Nat.le_of_ble_eq_true rfl) ?_); intro u14
    refine AOps.st 15 rfl rfl rfl (op_build (ns := [0]) (xs := [.tmp 14]) rfl tz_66 rfl tfl_66 rfl rfl rfl rfl ?_)
    refine AOps.st 16 rfl rfl rfl (op_boxe (cs' := [_]) rfl rfl rfl rfl ?_); intro b16
    refine AOps.st 4 rfl rfl rfl (op_assign rfl rfl ?_)
    refine AOps.nil ?_
    refine go_code ?_
    refine c_seq ?_
    have H4 := int_w 300 (by omega) b16 [199] _ ⟨u14, rfl⟩ (by simp only [List.length_cons, List.length_nil]; omega)
    refine c_region ?_
    refine AOps.st 17 rfl rfl rfl (op_move rfl rfl ?_)
    refine AOps.st 18 rfl rfl rfl (op_fieldAddr_c rfl tf_26_3 rfl rfl ?_)
    refine AOps.st 19 rfl rfl rfl (op_load_c1 rfl ta_3 rfl rfl ?_)
    refine AOps.st 20 rfl rfl rfl (op_callm (xs := [.tmp 17, .tmp 19])  [] rfl rfl rfl H4 (Les.refl _) (fun v20 M20 h20 => ?_))
    refine AOps.nil ?_
    refine go_code ?_
    refine c_seq ?_
    have H5 := int_w 0 (by omega) b16 _ M20 h20 (by simp only [List.length_append, List.length_cons, List.length_nil]; omega)
    refine c_region ?_
    refine AOps.st 21 rfl rfl rfl (op_move rfl rfl ?_)
    refine AOps.st 22 rfl rfl rfl (op_fieldAddr_c rfl tf_26_4 rfl rfl ?_)
    refine AOps.st 23 rfl rfl rfl (op_load_c1 rfl ta_3 rfl rfl ?_)
    refine AOps.st 24 rfl rfl rfl (op_callm (xs := [.tmp 21, .tmp 23])  [] rfl rfl rfl H5 (Les.refl _) (fun v24 M24 h24 => ?_))
    refine AOps.nil ?_
    refine go_code ?_
    refine c_seq ?_
    have H6 := int_w 0 (by omega) b16 _ M24 h24 (by simp only [List.length_append, List.length_cons, List.length_nil]; omega)
    refine c_region ?_
    refine AOps.st 25 rfl rfl rfl (op_move rfl rfl ?_)
    refine AOps.st 26 rfl rfl rfl (op_fieldAddr_c rfl tf_26_5 rfl rfl ?_)
    refine AOps.st 27 rfl rfl rfl (op_load_c1 rfl ta_3 rfl rfl ?_)
    refine AOps.st 28 rfl rfl rfl (op_callm (xs := [.tmp 25, .tmp 27])  [] rfl rfl rfl H6 (Les.refl _) (fun v28 M28 h28 => ?_))
    refine AOps.nil ?_
    refine go_code ?_
    refine c_seq ?_
    have H7 := int_w 0 (by omega) b16 _ M28 h28 (by simp only [List.length_append, List.length_cons, List.length_nil]; omega)
    refine c_region ?_
    refine AOps.st 29 rfl rfl rfl (op_move rfl rfl ?_)
    refine AOps.st 30 rfl rfl rfl (op_fieldAddr_c rfl tf_26_2 rfl rfl ?_)
    refine AOps.st 31 rfl rfl rfl (op_load_c1 rfl ta_24 rfl rfl ?_)
    refine AOps.st 32 rfl rfl rfl (op_len rfl tu_24 rfl (.seq _ _) (fun n32 => ?_))
    refine AOps.st 33 rfl rfl rfl (op_callm (xs := [.tmp 29, .tmp 32])  [] rfl rfl rfl H7 (Les.refl _) (fun v33 M33 h33 => ?_))
    refine AOps.nil ?_
    refine go_code ?_
    refine c_seq ?_
    refine c_seq ?_
    refine c_region ?_
    refine AOps.st 34 rfl rfl rfl (op_fieldAddr_c rfl tf_26_2 rfl rfl ?_)
    refine AOps.st 35 rfl rfl rfl (op_load_c1 rfl ta_24 rfl rfl ?_)
    refine AOps.st 36 rfl rfl rfl (op_len rfl tu_24 rfl (.seq _ _) (fun n36 => ?_))
    refine AOps.st 37 rfl rfl rfl (op_move rfl rfl ?_)
    refine AOps.nil ?_
    refine go_code ?_
    refine c_block ?_
    apply c_loopkm [0, 5, 6, 7, 9, 11, 12, 13, 14, 15, 16, 17, 18, 19, 20, 21, 22, 23, 24, 25, 26, 27, 28, 29, 30, 31, 32, 33, 34, 37, 38, 39, 40, 41, 42, 43, 44, 45, 46, 47, 48, 49, 50, 51, 52, 53, 54, 59, 70, 74, 78, 84, 94] (σ := Nat) (fun zz => match zz with | i => [(37, .val (.int .i64 i))]) (fun zz => match zz with | i => i ≤ 0) (fun zz => match zz with | i => 0) (0)
    · repeat' (first | exact Drops.nil | apply Drops.keep rfl | apply Drops.skip rfl)
    · exact Nat.zero_le _
    · exact (by repeat' (first | exact SLe.nil _ | refine SLe.cons rfl ?_ ?_ | exact Le.refl _ | exact Le.own _ _ _ | exact Le.nil _))
    rintro i hI
    try dsimp only [List.cons_append, List.nil_append] at hI ⊢
    refine c_seq ?_
    refine c_region ?_
    refine AOps.st 38 rfl rfl rfl (op_lss rfl rfl rfl ?_); intro c38 h38
    refine AOps.nil ?_
    refine go_code ?_
    refine c_seq ?_
    rcases bool_split h38 with ⟨rfl, g38⟩ | ⟨rfl, g38⟩
    · refine c_cond_f rfl ?_
      refine c_exit ?_
      refine x_code ?_
      refine x_lp ?_
      refine x_here ?_
      refine go_code ?_
      refine c_seq ?_
      have H8 := int_w 1 (by omega) b16 _ M33 h33 (by simp only [List.length_append, List.length_cons, List.length_nil]; omega)
      change ACall Try.prog _ _ _ (fun _ M' => WM b16 b1 M') at H8
      refine c_region ?_
      refine AOps.st 55 rfl rfl rfl (op_move rfl rfl ?_)
      refine AOps.st 56 rfl rfl rfl (op_fieldAddr_c rfl tf_26_1 rfl rfl ?_)
      refine AOps.st 57 rfl rfl rfl (op_load_c1 rfl ta_23 rfl rfl ?_)
      refine AOps.st 58 rfl rfl rfl (op_len rfl tu_23 rfl (.seq _ _) (fun n58 => ?_))
      refine AOps.st 59 rfl rfl rfl (op_callm (xs := [.tmp 55, .tmp 58])  [] rfl rfl rfl H8 (Les.refl _) (fun v59 M59 h59 => ?_))
      refine AOps.nil ?_
      refine go_code ?_
      refine c_seq ?_
      refine c_seq ?_
      refine c_region ?_
      refine AOps.st 60 rfl rfl rfl (op_fieldAddr_c rfl tf_26_1 rfl rfl ?_)
      refine AOps.st 61 rfl rfl rfl (op_load_c1 rfl ta_23 rfl rfl ?_)
      refine AOps.st 62 rfl rfl rfl (op_len rfl tu_23 rfl (.seq _ _) (fun n62 => ?_))
      refine AOps.st 63 rfl rfl rfl (op_move rfl rfl ?_)
      refine AOps.nil ?_
      refine go_code ?_
      refine c_block ?_
      apply c_loopk [0, 5, 6, 7, 8, 9, 11, 12, 13, 14, 15, 16, 17, 18, 19, 20, 21, 22, 23, 24, 25, 26, 27, 28, 29, 30, 31, 32, 33, 34, 35, 36, 37, 38, 39, 40, 41, 42, 43, 44, 45, 46, 47, 48, 49, 50, 51, 52, 53, 54, 55, 56, 57, 58, 59, 60, 63, 64, 65, 66, 67, 68, 69, 70, 71, 72, 73, 74, 75, 76, 77, 78, 79, 84, 94] (σ := Nat × Mem) (fun zz => match zz with | (i, M) => [(63, .val (.int .i64 i))]) (fun zz => match zz with | (i, M) => M) (fun zz => match zz with | (i, M) => i ≤ 1 ∧ (i = 0 → WM b16 b1 M) ∧ (i = 1 → WM b16 b2 M)) (fun zz => match zz with | (i, M) => 1 - i) ((0, M59))
      · repeat' (first | exact Drops.nil | apply Drops.keep rfl | apply Drops.skip rfl)
      · exact ⟨by omega, fun _ => h59, by omega⟩
      · exact (by repeat' (first | exact SLe.nil _ | refine SLe.cons rfl ?_ ?_ | exact Le.refl _ | exact Le.own _ _ _ | exact Le.nil _))
      · exact (by first | exact MLe.none _ | exact MLe.refl _ | (repeat' (first | exact MLe.nil | exact MLe.refl _ | refine MLe.cons _ ?_ | refine MLe.drop _ ?_)))
      rintro ⟨i, M⟩ hI
      try dsimp only [List.cons_append, List.nil_append] at hI ⊢
      obtain ⟨hi, hW0, hW1⟩ := hI
      refine c_seq ?_
      refine c_region ?_
      refine AOps.st 64 rfl rfl rfl (op_lss rfl rfl rfl ?_); intro c64 h64
      refine AOps.nil ?_
      refine go_code ?_
      refine c_seq ?_
      rcases bool_split h64 with ⟨rfl, g64⟩ | ⟨rfl, g64⟩
      · refine c_cond_f rfl ?_
        refine c_exit ?_
        refine x_code ?_
        refine x_lp ?_
        refine x_here ?_
        refine go_code ?_
        refine c_seq ?_
        have hi1 : i = 1 := by
          have hh : ((Cf.cellss [f0]).length : Int) = 1 := rfl
          omega
        have H12 := int_w 1 (by omega) b16 b2 M (hW1 hi1) (by omega)
        change ACall Try.prog _ _ _ (fun _ M' => WM b16 b3 M') at H12
        refine c_region ?_
        refine AOps.st 80 rfl rfl rfl (op_move rfl rfl ?_)
        refine AOps.st 81 rfl rfl rfl (op_fieldAddr_c rfl tf_26_0 rfl rfl ?_)
        refine AOps.st 82 rfl rfl rfl (op_load_c1 rfl ta_22 rfl rfl ?_)
        refine AOps.st 83 rfl rfl rfl (op_len rfl tu_22 rfl (.seq _ _) (fun n83 => ?_))
        refine AOps.st 84 rfl rfl rfl (op_callm (xs := [.tmp 80, .tmp 83])  [] rfl rfl rfl H12 (Les.refl _) (fun v84 M84 h84 => ?_))
        refine AOps.nil ?_
        refine go_code ?_
        refine c_seq ?_
        refine c_seq ?_
        refine c_region ?_
        refine AOps.st 85 rfl rfl rfl (op_fieldAddr_c rfl tf_26_0 rfl rfl ?_)
        refine AOps.st 86 rfl rfl rfl (op_load_c1 rfl ta_22 rfl rfl ?_)
        refine AOps.st 87 rfl rfl rfl (op_len rfl tu_22 rfl (.seq _ _) (fun n87 => ?_))
        refine AOps.st 88 rfl rfl rfl (op_move rfl rfl ?_)
        refine AOps.nil ?_
        refine go_code ?_
        refine c_block ?_
        apply c_loopk [0, 1, 5, 6, 7, 8, 9, 10, 11, 12, 13, 14, 15, 16, 17, 18, 19, 20, 21, 22, 23, 24, 25, 26, 27, 28, 29, 30, 31, 32, 33, 34, 35, 36, 37, 38, 39, 40, 41, 42, 43, 44, 45, 46, 47, 48, 49, 50, 51, 52, 53, 54, 55, 56, 57, 58, 59, 60, 61, 62, 63, 64, 65, 66, 67, 68, 69, 70, 71, 72, 73, 74, 75, 76, 77, 78, 79, 80, 81, 82, 83, 84, 85, 88, 89, 90, 91, 92, 93, 94, 95] (σ := Nat × Mem) (fun zz => match zz with | (i, M) => [(88, .val (.int .i64 i))]) (fun zz => match zz with | (i, M) => M) (fun zz => match zz with | (i, M) => i ≤ 1 ∧ (i = 0 → WM b16 b3 M) ∧ (i = 1 → WM b16 b4 M)) (fun zz => match zz with | (i, M) => 1 - i) ((0, M84))
        · repeat' (first | exact Drops.nil | apply Drops.keep rfl | apply Drops.skip rfl)
        · exact ⟨by omega, fun _ => h84, by omega⟩
        · exact (by repeat' (first | exact SLe.nil _ | refine SLe.cons rfl ?_ ?_ | exact Le.refl _ | exact Le.own _ _ _ | exact Le.nil _))
        · exact (by first | exact MLe.none _ | exact MLe.refl _ | (repeat' (first | exact MLe.nil | exact MLe.refl _ | refine MLe.cons _ ?_ | refine MLe.drop _ ?_)))
        rintro ⟨i, M⟩ hI
        try dsimp only [List.cons_append, List.nil_append] at hI ⊢
        obtain ⟨hi, hW0, hW1⟩ := hI
        refine c_seq ?_
        refine c_region ?_
        refine AOps.st 89 rfl rfl rfl (op_lss rfl rfl rfl ?_); intro c89 h89
        refine AOps.nil ?_
        refine go_code ?_
        refine c_seq ?_
        rcases bool_split h89 with ⟨rfl, g89⟩ | ⟨rfl, g89⟩
        · refine c_cond_f rfl ?_
          refine c_exit ?_
          refine x_code ?_
          refine x_lp ?_
          refine x_here ?_
          refine go_code ?_
          refine c_seq ?_
          have hi1 : i = 1 := by
            have hh : ((Is.cellss [i0]).length : Int) = 1 := rfl
            omega
          obtain ⟨u9, rfl⟩ := hW1 hi1
          refine c_region ?_
          refine AOps.st 96 rfl rfl rfl (op_move rfl rfl ?_)
          refine AOps.st 97 rfl rfl rfl (op_nilCheck_m rfl rfl ?_)
          refine AOps.st 98 rfl rfl rfl (op_fieldAddr_m rfl tf_66_0 rfl ?_)
          refine AOps.st 99 rfl rfl rfl (op_load_m1 (i := 0) rfl ta_31 rfl rfl rfl ?_)
          refine AOps.st 2 rfl rfl rfl (op_assign rfl rfl ?_)
          refine AOps.st 3 rfl rfl rfl (op_assign rfl rfl ?_)
          refine AOps.nil ?_
          refine go_code ?_
          refine c_ret ?_
          exact out_tt rfl rfl rfl (by repeat' (first | exact Le.refl _ | exact Le.own _ _ _ | exact Le.nil _ | refine Le.agg ?_ | refine Le.tup ?_ | exact Les.refl _ | refine Les.cons ?_ ?_)) (by first | exact MLe.none _ | exact MLe.refl _ | (repeat' (first | exact MLe.nil | exact MLe.refl _ | refine MLe.cons _ ?_ | refine MLe.drop _ ?_))) ⟨rfl, rfl⟩
        · refine c_cond_t rfl ?_
          refine c_skip ?_
          refine go_code ?_
          refine c_seq ?_
          refine c_block ?_
          refine c_seq ?_
          have hi0 : i = 0 := by
            have hh : ((Is.cellss [i0]).length : Int) = 1 := rfl
            omega
          subst hi0
          have hcx : (Is.cellss [i0])[0]? = some i0.cells := rfl
          have H13 := ins0_w b16 b3 M (hW0 rfl) (by rw [List.length_append]; omega)
          refine c_region ?_
          refine AOps.st 90 rfl rfl rfl (op_index rfl te_22 rfl (.seq _ _) rfl rfl (by assumption) ?_)
          first | (refine AOps.st 91 rfl rfl rfl (op_load_m (cs' := [_, _, _, _, _, _, _]) (i := 0) rfl ta_46 rfl rfl rfl rfl ?_)) | (refine AOps.st 91 rfl rfl rfl (op_load_m (cs' := [_, _, _, _, _, _, _]) (i := 1) rfl ta_46 rfl rfl rfl rfl ?_)) | (refine AOps.st 91 rfl rfl rfl (op_load_m (cs' := [_, _, _, _, _, _, _]) (i := 2) rfl ta_46 rfl rfl rfl rfl ?_)) | (refine AOps.st 91 rfl rfl rfl (op_load_m (cs' := [_, _, _, _, _, _, _]) (i := 3) rfl ta_46 rfl rfl rfl rfl ?_)) | (refine AOps.st 91 rfl rfl rfl (op_load_m (cs' := [_, _, _, _, _, _, _]) (i := 4) rfl ta_46 rfl rfl rfl rfl ?_)) | (refine AOps.st 91 rfl rfl rfl (op_load_m (cs' := [_, _, _, _, _, _, _]) (i := 5) rfl ta_46 rfl rfl rfl rfl ?_)) | (refine AOps.st 91 rfl rfl rfl (op_load_m (cs' := [_, _, _, _, _, _, _]) (i := 6) rfl ta_46 rfl rfl rfl rfl ?_)) | (refine AOps.st 91 rfl rfl rfl (op_load_m (cs' := [_, _, _, _, _, _, _]) (i := 7) rfl ta_46 rfl rfl rfl rfl ?_)) | (refine AOps.st 91 rfl rfl rfl (op_load_m (cs' := [_, _, _, _, _, _, _]) (i := 8) rfl ta_46 rfl rfl rfl rfl ?_)) | (refine AOps.st 91 rfl rfl rfl (op_load_m (cs' := [_, _, _, _, _, _, _]) (i := 9) rfl ta_46 rfl rfl rfl rfl ?_)) | (refine AOps.st 91 rfl rfl rfl (op_load_c (cs' := [_, _, _, _, _, _, _]) rfl ta_46 rfl rfl rfl ?_))
          refine AOps.st 10 rfl rfl rfl (op_alloce (cs' := [_, _, _, _, _, _, _]) rfl tz_46 rfl rfl ?_); intro b10
          refine AOps.st0 rfl rfl (op_store (cs' := [_, _, _, _, _, _, _]) (i := 0) rfl ts_46 rfl rfl rfl rfl rfl (Nat.le_of_ble_eq_true rfl) rfl ?_)
          refine AOps.nil ?_
          refine go_code ?_
          refine c_region ?_
          refine AOps.st 92 rfl rfl rfl (op_move rfl rfl ?_)
          refine AOps.st 93 rfl rfl rfl (op_load_m (cs' := [_, _, _, _, _, _, _]) (i := 0) rfl ta_46 rfl rfl rfl rfl ?_)
          refine AOps.st 94 rfl rfl rfl (op_callm (xs := [.tmp 92, .tmp 93])  [.loc b10 _] rfl rfl rfl H13 (Les.refl _) (fun v94 M94 h94 => ?_))
          refine AOps.nil ?_
          refine go_blk ?_
          refine go_code ?_
          refine c_region ?_
          refine AOps.st 95 rfl rfl rfl (op_add rfl rfl rfl (IntWalk.i64_in _ (by omega)) ?_)
          refine AOps.st 88 rfl rfl rfl (op_move rfl rfl ?_)
          refine AOps.nil ?_
          refine go_lp ?_
          exact ⟨(1, M94), ⟨Nat.le_refl _, fun q => absurd q (by simp), fun _ => h94⟩, by simp, (by repeat' (first | exact SLe.nil _ | refine SLe.cons rfl ?_ ?_ | exact Le.refl _ | exact Le.own _ _ _ | exact Le.nil _)), (MLe.drop _ (MLe.refl _))⟩
      · refine c_cond_t rfl ?_
        refine c_skip ?_
        refine go_code ?_
        refine c_seq ?_
        refine c_block ?_
        refine c_seq ?_
        have hi0 : i = 0 := by
          have hh : ((Cf.cellss [f0]).length : Int) = 1 := rfl
          omega
        subst hi0
        have hcx : (Cf.cellss [f0])[0]? = some [.val (.int .i64 1), .val (.int .i64 1), .val (.int .i64 0)] := rfl
        have H9 := int_w 1 (by omega) b16 b1 M (hW0 rfl) (by omega)
        refine c_region ?_
        refine AOps.st 65 rfl rfl rfl (op_index rfl te_23 rfl (.seq _ _) rfl rfl (by assumption) ?_)
        first | (refine AOps.st 66 rfl rfl rfl (op_load_m (cs' := [_, _, _]) (i := 0) rfl ta_39 rfl rfl rfl rfl ?_)) | (refine AOps.st 66 rfl rfl rfl (op_load_m (cs' := [_, _, _]) (i := 1) rfl ta_39 rfl rfl rfl rfl ?_)) | (refine AOps.st 66 rfl rfl rfl (op_load_m (cs' := [_, _, _]) (i := 2) rfl ta_39 rfl rfl rfl rfl ?_)) | (refine AOps.st 66 rfl rfl rfl (op_load_m (cs' := [_, _, _]) (i := 3) rfl ta_39 rfl rfl rfl rfl ?_)) | (refine AOps.st 66 rfl rfl rfl (op_load_m (cs' := [_, _, _]) (i := 4) rfl ta_39 rfl rfl rfl rfl ?_)) | (refine AOps.st 66 rfl rfl rfl (op_load_m (cs' := [_, _, _]) (i := 5) rfl ta_39 rfl rfl rfl rfl ?_)) | (refine AOps.st 66 rfl rfl rfl (op_load_m (cs' := [_, _, _]) (i := 6) rfl ta_39 rfl rfl rfl rfl ?_)) | (refine AOps.st 66 rfl rfl rfl (op_load_m (cs' := [_, _, _]) (i := 7) rfl ta_39 rfl rfl rfl rfl ?_)) | (refine AOps.st 66 rfl rfl rfl (op_load_m (cs' := [_, _, _]) (i := 8) rfl ta_39 rfl rfl rfl rfl ?_)) | (refine AOps.st 66 rfl rfl rfl (op_load_m (cs' := [_, _, _]) (i := 9) rfl ta_39 rfl rfl rfl rfl ?_)) | (refine AOps.st 66 rfl rfl rfl (op_load_c (cs' := [_, _, _]) rfl ta_39 rfl rfl rfl ?_))
        refine AOps.st 8 rfl rfl rfl (op_alloce (cs' := [_, _, _]) rfl tz_39 rfl rfl ?_); intro b8
        refine AOps.st0 rfl rfl (op_store (cs' := [_, _, _]) (i := 0) rfl ts_39 rfl rfl rfl rfl rfl (Nat.le_of_ble_eq_true rfl) rfl ?_)
        refine AOps.nil ?_
        refine go_code ?_
        refine c_seq ?_
        refine c_region ?_
        refine AOps.st 67 rfl rfl rfl (op_move rfl rfl ?_)
        refine AOps.st 68 rfl rfl rfl (op_fieldAddr_m rfl tf_39_0 rfl ?_)
        refine AOps.st 69 rfl rfl rfl (op_load_m1 (i := 0) rfl ta_3 rfl rfl rfl ?_)
        refine AOps.st 70 rfl rfl rfl (op_callm (xs := [.tmp 67, .tmp 69])  [.loc b8 _] rfl rfl rfl H9 (Les.refl _) (fun v70 M70 h70 => ?_))
        refine AOps.nil ?_
        refine go_code ?_
        refine c_seq ?_
        have H10 := int_w 1 (by omega) b16 _ M70 h70 (by simp only [List.length_append]; omega)
        refine c_region ?_
        refine AOps.st 71 rfl rfl rfl (op_move rfl rfl ?_)
        refine AOps.st 72 rfl rfl rfl (op_fieldAddr_m rfl tf_39_1 rfl ?_)
        refine AOps.st 73 rfl rfl rfl (op_load_m1 (i := 0) rfl ta_3 rfl rfl rfl ?_)
        refine AOps.st 74 rfl rfl rfl (op_callm (xs := [.tmp 71, .tmp 73])  [.loc b8 _] rfl rfl rfl H10 (Les.refl _) (fun v74 M74 h74 => ?_))
        refine AOps.nil ?_
        refine go_code ?_
        have H11 := int_w 0 (by omega) b16 _ M74 h74 (by simp only [List.length_append]; omega)
        refine c_region ?_
        refine AOps.st 75 rfl rfl rfl (op_move rfl rfl ?_)
        refine AOps.st 76 rfl rfl rfl (op_fieldAddr_m rfl tf_39_2 rfl ?_)
        refine AOps.st 77 rfl rfl rfl (op_load_m1 (i := 0) rfl ta_3 rfl rfl rfl ?_)
        refine AOps.st 78 rfl rfl rfl (op_callm (xs := [.tmp 75, .tmp 77])  [.loc b8 _] rfl rfl rfl H11 (Les.refl _) (fun v78 M78 h78 => ?_))
        refine AOps.nil ?_
        refine go_blk ?_
        refine go_code ?_
        refine c_region ?_
        refine AOps.st 79 rfl rfl rfl (op_add rfl rfl rfl (IntWalk.i64_in _ (by omega)) ?_)
        refine AOps.st 63 rfl rfl rfl (op_move rfl rfl ?_)
        refine AOps.nil ?_
        refine go_lp ?_
        exact ⟨(1, M78), ⟨Nat.le_refl _, fun q => absurd q (by simp), fun _ => h78⟩, by simp, (by repeat' (first | exact SLe.nil _ | refine SLe.cons rfl ?_ ?_ | exact Le.refl _ | exact Le.own _ _ _ | exact Le.nil _)), (MLe.drop _ (MLe.refl _))⟩
    · refine c_cond_t rfl ?_
      refine c_skip ?_
      refine go_code ?_
      refine c_seq ?_
      refine c_block ?_
      refine c_seq ?_
      exact absurd g38 (by simp [strs])
  · refine c_cond_t rfl ?_
    refine c_seq ?_
    exact absurd g13 (by simp)
set_option maxHeartbeats 4000000 in
set_option maxRecDepth 100000 in
theorem awake29_c : PCall Try.prog 5 [] (.val (.bool true)) := by
  have HE := Encode0_c
  rw [b4_eq] at HE
  have HR := (Right_c c0 c0_lim).yes c0_right
  refine ACall.enter Try.func5 rfl (by kernel_rfl) rfl (Nat.le_of_ble_eq_true rfl) ?_
  refine c_start ?_
  refine c_seq ?_
  refine c_region ?_
  refine AOps.st 0 rfl rfl rfl (op_assign rfl rfl ?_)
  refine AOps.nil ?_
  refine go_code ?_
  refine c_seq ?_
  refine c_region ?_
  refine AOps.st 4 rfl rfl rfl (op_build (ns := [0, 1]) (xs := [.const (.int .i64 1), .const (.int .i64 1)]) rfl tz_39 rfl tfl_39 rfl rfl rfl rfl ?_)
  refine AOps.st 5 rfl rfl rfl (op_buildSlice (xs := [.tmp 4]) el_23 rfl rfl rfl rfl rfl rfl (Nat.le_of_ble_eq_true rfl) ?_)
  refine AOps.st 6 rfl rfl rfl (op_build (ns := [0, 1]) (xs := [.const (.int .i64 1), .const (.int .i64 (-1))]) rfl tz_41 rfl tfl_41 rfl rfl rfl rfl ?_)
  refine AOps.st 7 rfl rfl rfl (op_buildSlice (xs := [.tmp 6]) el_42 rfl rfl rfl rfl rfl rfl (Nat.le_of_ble_eq_true rfl) ?_)
  refine AOps.st 8 rfl rfl rfl (op_build (ns := [0, 4]) (xs := [.const (.int .i64 7), .tmp 7]) rfl tz_46 rfl tfl_46 rfl rfl rfl rfl ?_)
  refine AOps.st 9 rfl rfl rfl (op_buildSlice (xs := [.tmp 8]) el_22 rfl rfl rfl rfl rfl rfl (Nat.le_of_ble_eq_true rfl) ?_)
  refine AOps.st 10 rfl rfl rfl (op_build (ns := [3, 1, 0]) (xs := [.const (.int .i64 300), .tmp 5, .tmp 9]) rfl tz_26 rfl tfl_26 rfl rfl rfl rfl ?_)
  refine AOps.st 1 rfl rfl rfl (op_alloce (cs' := [_, _, _, _, _, _]) rfl tz_26 rfl rfl ?_); intro b1
  refine AOps.st0 rfl rfl (op_store (cs' := [_, _, _, _, _, _]) (i := 0) rfl ts_26 rfl rfl rfl rfl rfl (Nat.le_of_ble_eq_true rfl) rfl ?_)
  refine AOps.nil ?_
  refine go_code ?_
  refine c_seq ?_
  refine c_le (SLe.refl _) (MLe.loc _ (cs' := c0.cells) (by repeat' (first | exact Le.refl _ | exact Le.nil _ | refine Le.agg ?_ | refine Le.seq ?_ | exact Less.nil | refine Less.cons ?_ rfl ?_ | exact Les.refl _ | refine Les.cons ?_ ?_)) (MLe.refl _)) ?_
  refine c_region ?_
  refine AOps.st 12 rfl rfl rfl (op_load_m (cs' := [_, _, _, _, _, _]) (i := 0) rfl ta_26 rfl rfl rfl rfl ?_)
  refine AOps.st 13 rfl rfl rfl (op_callp (xs := [.tmp 12]) rfl rfl (HE) (by first | exact Les.refl _ | (repeat' (first | exact Les.refl _ | refine Les.cons ?_ ?_ | exact Le.refl _ | exact Le.own _ _ _ | exact Le.nil _ | refine Le.agg ?_))) ?_)
  refine AOps.st 11 rfl rfl rfl (op_move rfl rfl ?_)
  refine AOps.st 14 rfl rfl rfl (op_extract rfl rfl rfl ?_)
  refine AOps.st 15 rfl rfl rfl (op_extract rfl rfl rfl ?_)
  refine AOps.st 2 rfl rfl rfl (op_assign rfl rfl ?_)
  refine AOps.st 3 rfl rfl rfl (op_assign rfl rfl ?_)
  refine AOps.nil ?_
  refine go_code ?_
  refine c_seq ?_
  have hlen : (bts [199, 172, 2, 0, 0, 0, 1, 1, 1, 0, 1, 7, 1, 1]).length = 14 := rfl
  refine c_bool 0 (True) ?_ _ _ rfl ?_
  · skip
    refine AOps.st 16 rfl rfl rfl (op_move rfl rfl ?_)
    refine AOps.st 17 rfl rfl rfl (op_eql rfl rfl rfl ?_); intro c17 h17
    refine AOps.st 18 rfl rfl rfl (op_move rfl rfl ?_)
    rcases bool_split h17 with ⟨rfl, g17⟩ | ⟨rfl, g17⟩
    · skip
      refine AOps.gf 19 rfl rfl rfl rfl rfl ?_
      refine AOps.gf 20 rfl rfl rfl rfl rfl ?_
      refine AOps.gf 21 rfl rfl rfl rfl rfl ?_
      refine AOps.st 22 rfl rfl rfl (op_pick rfl rfl rfl ?_)
      refine AOps.st 23 rfl rfl rfl (op_move rfl rfl ?_)
      refine AOps.gf 24 rfl rfl rfl rfl rfl ?_
      refine AOps.gf 25 rfl rfl rfl rfl rfl ?_
      refine AOps.gf 26 rfl rfl rfl rfl rfl ?_
      refine AOps.gf 27 rfl rfl rfl rfl rfl ?_
      refine AOps.st 28 rfl rfl rfl (op_pick rfl rfl rfl ?_)
      refine AOps.st 29 rfl rfl rfl (op_move rfl rfl ?_)
      refine AOps.gf 30 rfl rfl rfl rfl rfl ?_
      refine AOps.gf 31 rfl rfl rfl rfl rfl ?_
      refine AOps.gf 32 rfl rfl rfl rfl rfl ?_
      refine AOps.gf 33 rfl rfl rfl rfl rfl ?_
      refine AOps.st 34 rfl rfl rfl (op_pick rfl rfl rfl ?_)
      refine AOps.st 35 rfl rfl rfl (op_move rfl rfl ?_)
      refine AOps.gf 36 rfl rfl rfl rfl rfl ?_
      refine AOps.gf 37 rfl rfl rfl rfl rfl ?_
      refine AOps.gf 38 rfl rfl rfl rfl rfl ?_
      refine AOps.gf 39 rfl rfl rfl rfl rfl ?_
      refine AOps.st 40 rfl rfl rfl (op_pick rfl rfl rfl ?_)
      refine AOps.st 41 rfl rfl rfl (op_move rfl rfl ?_)
      refine AOps.gf 42 rfl rfl rfl rfl rfl ?_
      refine AOps.gf 43 rfl rfl rfl rfl rfl ?_
      refine AOps.gf 44 rfl rfl rfl rfl rfl ?_
      refine AOps.gf 45 rfl rfl rfl rfl rfl ?_
      refine AOps.gf 46 rfl rfl rfl rfl rfl ?_
      refine AOps.gf 47 rfl rfl rfl rfl rfl ?_
      refine AOps.gf 48 rfl rfl rfl rfl rfl ?_
      refine AOps.st 49 rfl rfl rfl (op_pick rfl rfl rfl ?_)
      refine AOps.st 50 rfl rfl rfl (op_move rfl rfl ?_)
      refine AOps.gf 51 rfl rfl rfl rfl rfl ?_
      refine AOps.gf 52 rfl rfl rfl rfl rfl ?_
      refine AOps.st 53 rfl rfl rfl (op_pick rfl rfl rfl ?_)
      refine AOps.st 0 rfl rfl rfl (op_assign rfl rfl ?_)
      refine AOps.nil ?_
      refine BoolQ.mk rfl ?_ (by repeat' (first | exact SLe.wo _ _ | exact SLe.refl _ | refine SLe.fresh rfl ?_)) (by first | exact MLe.none _ | exact MLe.refl _ | (repeat' (first | exact MLe.nil | exact MLe.refl _ | refine MLe.cons _ ?_ | refine MLe.drop _ ?_)))
      simp_all; done
    · skip
      refine AOps.gt 19 rfl rfl rfl rfl rfl (op_move rfl rfl ?_)
      refine AOps.gt 20 rfl rfl rfl rfl rfl (op_len rfl tu_31 rfl (.seq _ _) (fun n20 => ?_))
      refine AOps.gt 21 rfl rfl rfl rfl rfl (op_gtr rfl rfl rfl ?_); intro c21 h21
      refine AOps.st 22 rfl rfl rfl (op_pick rfl rfl rfl ?_)
      refine AOps.st 23 rfl rfl rfl (op_move rfl rfl ?_)
      rcases bool_split h21 with ⟨rfl, g21⟩ | ⟨rfl, g21⟩
      · skip
        refine AOps.gf 24 rfl rfl rfl rfl rfl ?_
        refine AOps.gf 25 rfl rfl rfl rfl rfl ?_
        refine AOps.gf 26 rfl rfl rfl rfl rfl ?_
        refine AOps.gf 27 rfl rfl rfl rfl rfl ?_
        refine AOps.st 28 rfl rfl rfl (op_pick rfl rfl rfl ?_)
        refine AOps.st 29 rfl rfl rfl (op_move rfl rfl ?_)
        refine AOps.gf 30 rfl rfl rfl rfl rfl ?_
        refine AOps.gf 31 rfl rfl rfl rfl rfl ?_
        refine AOps.gf 32 rfl rfl rfl rfl rfl ?_
        refine AOps.gf 33 rfl rfl rfl rfl rfl ?_
        refine AOps.st 34 rfl rfl rfl (op_pick rfl rfl rfl ?_)
        refine AOps.st 35 rfl rfl rfl (op_move rfl rfl ?_)
        refine AOps.gf 36 rfl rfl rfl rfl rfl ?_
        refine AOps.gf 37 rfl rfl rfl rfl rfl ?_
        refine AOps.gf 38 rfl rfl rfl rfl rfl ?_
        refine AOps.gf 39 rfl rfl rfl rfl rfl ?_
        refine AOps.st 40 rfl rfl rfl (op_pick rfl rfl rfl ?_)
        refine AOps.st 41 rfl rfl rfl (op_move rfl rfl ?_)
        refine AOps.gf 42 rfl rfl rfl rfl rfl ?_
        refine AOps.gf 43 rfl rfl rfl rfl rfl ?_
        refine AOps.gf 44 rfl rfl rfl rfl rfl ?_
        refine AOps.gf 45 rfl rfl rfl rfl rfl ?_
        refine AOps.gf 46 rfl rfl rfl rfl rfl ?_
        refine AOps.gf 47 rfl rfl rfl rfl rfl ?_
        refine AOps.gf 48 rfl rfl rfl rfl rfl ?_
        refine AOps.st 49 rfl rfl rfl (op_pick rfl rfl rfl ?_)
        refine AOps.st 50 rfl rfl rfl (op_move rfl rfl ?_)
        refine AOps.gf 51 rfl rfl rfl rfl rfl ?_
        refine AOps.gf 52 rfl rfl rfl rfl rfl ?_
        refine AOps.st 53 rfl rfl rfl (op_pick rfl rfl rfl ?_)
        refine AOps.st 0 rfl rfl rfl (op_assign rfl rfl ?_)
        refine AOps.nil ?_
        refine BoolQ.mk rfl ?_ (by repeat' (first | exact SLe.wo _ _ | exact SLe.refl _ | refine SLe.fresh rfl ?_)) (by first | exact MLe.none _ | exact MLe.refl _ | (repeat' (first | exact MLe.nil | exact MLe.refl _ | refine MLe.cons _ ?_ | refine MLe.drop _ ?_)))
        simp_all; done
      · skip
        refine AOps.gt 24 rfl rfl rfl rfl rfl (op_move rfl rfl ?_)
        refine AOps.gt 25 rfl rfl rfl rfl rfl (op_index rfl te_31 rfl (.seq _ _) rfl rfl (rfl) ?_)
        first | (refine AOps.gt 26 rfl rfl rfl rfl rfl (op_load_m1 (i := 0) rfl ta_5 rfl rfl rfl ?_)) | (refine AOps.gt 26 rfl rfl rfl rfl rfl (op_load_m1 (i := 1) rfl ta_5 rfl rfl rfl ?_)) | (refine AOps.gt 26 rfl rfl rfl rfl rfl (op_load_m1 (i := 2) rfl ta_5 rfl rfl rfl ?_)) | (refine AOps.gt 26 rfl rfl rfl rfl rfl (op_load_m1 (i := 3) rfl ta_5 rfl rfl rfl ?_)) | (refine AOps.gt 26 rfl rfl rfl rfl rfl (op_load_m1 (i := 4) rfl ta_5 rfl rfl rfl ?_)) | (refine AOps.gt 26 rfl rfl rfl rfl rfl (op_load_m1 (i := 5) rfl ta_5 rfl rfl rfl ?_)) | (refine AOps.gt 26 rfl rfl rfl rfl rfl (op_load_m1 (i := 6) rfl ta_5 rfl rfl rfl ?_)) | (refine AOps.gt 26 rfl rfl rfl rfl rfl (op_load_m1 (i := 7) rfl ta_5 rfl rfl rfl ?_)) | (refine AOps.gt 26 rfl rfl rfl rfl rfl (op_load_m1 (i := 8) rfl ta_5 rfl rfl rfl ?_)) | (refine AOps.gt 26 rfl rfl rfl rfl rfl (op_load_m1 (i := 9) rfl ta_5 rfl rfl rfl ?_)) | (refine AOps.gt 26 rfl rfl rfl rfl rfl (op_load_c1 rfl ta_5 rfl rfl ?_))
        refine AOps.gt 27 rfl rfl rfl rfl rfl (op_eql rfl rfl rfl ?_); intro c27 h27
        refine AOps.st 28 rfl rfl rfl (op_pick rfl rfl rfl ?_)
        refine AOps.st 29 rfl rfl rfl (op_move rfl rfl ?_)
        rcases bool_split h27 with ⟨rfl, g27⟩ | ⟨rfl, g27⟩
        · skip
          refine AOps.gf 30 rfl rfl rfl rfl rfl ?_
          refine AOps.gf 31 rfl rfl rfl rfl rfl ?_
          refine AOps.gf 32 rfl rfl rfl rfl rfl ?_
          refine AOps.gf 33 rfl rfl rfl rfl rfl ?_
          refine AOps.st 34 rfl rfl rfl (op_pick rfl rfl rfl ?_)
          refine AOps.st 35 rfl rfl rfl (op_move rfl rfl ?_)
          refine AOps.gf 36 rfl rfl rfl rfl rfl ?_
          refine AOps.gf 37 rfl rfl rfl rfl rfl ?_
          refine AOps.gf 38 rfl rfl rfl rfl rfl ?_
          refine AOps.gf 39 rfl rfl rfl rfl rfl ?_
          refine AOps.st 40 rfl rfl rfl (op_pick rfl rfl rfl ?_)
          refine AOps.st 41 rfl rfl rfl (op_move rfl rfl ?_)
          refine AOps.gf 42 rfl rfl rfl rfl rfl ?_
          refine AOps.gf 43 rfl rfl rfl rfl rfl ?_
          refine AOps.gf 44 rfl rfl rfl rfl rfl ?_
          refine AOps.gf 45 rfl rfl rfl rfl rfl ?_
          refine AOps.gf 46 rfl rfl rfl rfl rfl ?_
          refine AOps.gf 47 rfl rfl rfl rfl rfl ?_
          refine AOps.gf 48 rfl rfl rfl rfl rfl ?_
          refine AOps.st 49 rfl rfl rfl (op_pick rfl rfl rfl ?_)
          refine AOps.st 50 rfl rfl rfl (op_move rfl rfl ?_)
          refine AOps.gf 51 rfl rfl rfl rfl rfl ?_
          refine AOps.gf 52 rfl rfl rfl rfl rfl ?_
          refine AOps.st 53 rfl rfl rfl (op_pick rfl rfl rfl ?_)
          refine AOps.st 0 rfl rfl rfl (op_assign rfl rfl ?_)
          refine AOps.nil ?_
          refine BoolQ.mk rfl ?_ (by repeat' (first | exact SLe.wo _ _ | exact SLe.refl _ | refine SLe.fresh rfl ?_)) (by first | exact MLe.none _ | exact MLe.refl _ | (repeat' (first | exact MLe.nil | exact MLe.refl _ | refine MLe.cons _ ?_ | refine MLe.drop _ ?_)))
          simp_all; done
        · skip
          refine AOps.gt 30 rfl rfl rfl rfl rfl (op_move rfl rfl ?_)
          refine AOps.gt 31 rfl rfl rfl rfl rfl (op_index rfl te_31 rfl (.seq _ _) rfl rfl (rfl) ?_)
          first | (refine AOps.gt 32 rfl rfl rfl rfl rfl (op_load_m1 (i := 0) rfl ta_5 rfl rfl rfl ?_)) | (refine AOps.gt 32 rfl rfl rfl rfl rfl (op_load_m1 (i := 1) rfl ta_5 rfl rfl rfl ?_)) | (refine AOps.gt 32 rfl rfl rfl rfl rfl (op_load_m1 (i := 2) rfl ta_5 rfl rfl rfl ?_)) | (refine AOps.gt 32 rfl rfl rfl rfl rfl (op_load_m1 (i := 3) rfl ta_5 rfl rfl rfl ?_)) | (refine AOps.gt 32 rfl rfl rfl rfl rfl (op_load_m1 (i := 4) rfl ta_5 rfl rfl rfl ?_)) | (refine AOps.gt 32 rfl rfl rfl rfl rfl (op_load_m1 (i := 5) rfl ta_5 rfl rfl rfl ?_)) | (refine AOps.gt 32 rfl rfl rfl rfl rfl (op_load_m1 (i := 6) rfl ta_5 rfl rfl rfl ?_)) | (refine AOps.gt 32 rfl rfl rfl rfl rfl (op_load_m1 (i := 7) rfl ta_5 rfl rfl rfl ?_)) | (refine AOps.gt 32 rfl rfl rfl rfl rfl (op_load_m1 (i := 8) rfl ta_5 rfl rfl rfl ?_)) | (refine AOps.gt 32 rfl rfl rfl rfl rfl (op_load_m1 (i := 9) rfl ta_5 rfl rfl rfl ?_)) | (refine AOps.gt 32 rfl rfl rfl rfl rfl (op_load_c1 rfl ta_5 rfl rfl ?_))
          refine AOps.gt 33 rfl rfl rfl rfl rfl (op_eql rfl rfl rfl ?_); intro c33 h33
          refine AOps.st 34 rfl rfl rfl (op_pick rfl rfl rfl ?_)
          refine AOps.st 35 rfl rfl rfl (op_move rfl rfl ?_)
          rcases bool_split h33 with ⟨rfl, g33⟩ | ⟨rfl, g33⟩
          · skip
            refine AOps.gf 36 rfl rfl rfl rfl rfl ?_
            refine AOps.gf 37 rfl rfl rfl rfl rfl ?_
            refine AOps.gf 38 rfl rfl rfl rfl rfl ?_
            refine AOps.gf 39 rfl rfl rfl rfl rfl ?_
            refine AOps.st 40 rfl rfl rfl (op_pick rfl rfl rfl ?_)
            refine AOps.st 41 rfl rfl rfl (op_move rfl rfl ?_)
            refine AOps.gf 42 rfl rfl rfl rfl rfl ?_
            refine AOps.gf 43 rfl rfl rfl rfl rfl ?_
            refine AOps.gf 44 rfl rfl rfl rfl rfl ?_
            refine AOps.gf 45 rfl rfl rfl rfl rfl ?_
            refine AOps.gf 46 rfl rfl rfl rfl rfl ?_
            refine AOps.gf 47 rfl rfl rfl rfl rfl ?_
            refine AOps.gf 48 rfl rfl rfl rfl rfl ?_
            refine AOps.st 49 rfl rfl rfl (op_pick rfl rfl rfl ?_)
            refine AOps.st 50 rfl rfl rfl (op_move rfl rfl ?_)
            refine AOps.gf 51 rfl rfl rfl rfl rfl ?_
            refine AOps.gf 52 rfl rfl rfl rfl rfl ?_
            refine AOps.st 53 rfl rfl rfl (op_pick rfl rfl rfl ?_)
            refine AOps.st 0 rfl rfl rfl (op_assign rfl rfl ?_)
            refine AOps.nil ?_
            refine BoolQ.mk rfl ?_ (by repeat' (first | exact SLe.wo _ _ | exact SLe.refl _ | refine SLe.fresh rfl ?_)) (by first | exact MLe.none _ | exact MLe.refl _ | (repeat' (first | exact MLe.nil | exact MLe.refl _ | refine MLe.cons _ ?_ | refine MLe.drop _ ?_)))
            simp_all; done
          · skip
            refine AOps.gt 36 rfl rfl rfl rfl rfl (op_move rfl rfl ?_)
            refine AOps.gt 37 rfl rfl rfl rfl rfl (op_index rfl te_31 rfl (.seq _ _) rfl rfl (rfl) ?_)
            first | (refine AOps.gt 38 rfl rfl rfl rfl rfl (op_load_m1 (i := 0) rfl ta_5 rfl rfl rfl ?_)) | (refine AOps.gt 38 rfl rfl rfl rfl rfl (op_load_m1 (i := 1) rfl ta_5 rfl rfl rfl ?_)) | (refine AOps.gt 38 rfl rfl rfl rfl rfl (op_load_m1 (i := 2) rfl ta_5 rfl rfl rfl ?_)) | (refine AOps.gt 38 rfl rfl rfl rfl rfl (op_load_m1 (i := 3) rfl ta_5 rfl rfl rfl ?_)) | (refine AOps.gt 38 rfl rfl rfl rfl rfl (op_load_m1 (i := 4) rfl ta_5 rfl rfl rfl ?_)) | (refine AOps.gt 38 rfl rfl rfl rfl rfl (op_load_m1 (i := 5) rfl ta_5 rfl rfl rfl ?_)) | (refine AOps.gt 38 rfl rfl rfl rfl rfl (op_load_m1 (i := 6) rfl ta_5 rfl rfl rfl ?_)) | (refine AOps.gt 38 rfl rfl rfl rfl rfl (op_load_m1 (i := 7) rfl ta_5 rfl rfl rfl ?_)) | (refine AOps.gt 38 rfl rfl rfl rfl rfl (op_load_m1 (i := 8) rfl ta_5 rfl rfl rfl ?_)) | (refine AOps.gt 38 rfl rfl rfl rfl rfl (op_load_m1 (i := 9) rfl ta_5 rfl rfl rfl ?_)) | (refine AOps.gt 38 rfl rfl rfl rfl rfl (op_load_c1 rfl ta_5 rfl rfl ?_))
            refine AOps.gt 39 rfl rfl rfl rfl rfl (op_eql rfl rfl rfl ?_); intro c39 h39
            refine AOps.st 40 rfl rfl rfl (op_pick rfl rfl rfl ?_)
            refine AOps.st 41 rfl rfl rfl (op_move rfl rfl ?_)
            rcases bool_split h39 with ⟨rfl, g39⟩ | ⟨rfl, g39⟩
            · skip
              refine AOps.gf 42 rfl rfl rfl rfl rfl ?_
              refine AOps.gf 43 rfl rfl rfl rfl rfl ?_
              refine AOps.gf 44 rfl rfl rfl rfl rfl ?_
              refine AOps.gf 45 rfl rfl rfl rfl rfl ?_
              refine AOps.gf 46 rfl rfl rfl rfl rfl ?_
              refine AOps.gf 47 rfl rfl rfl rfl rfl ?_
              refine AOps.gf 48 rfl rfl rfl rfl rfl ?_
              refine AOps.st 49 rfl rfl rfl (op_pick rfl rfl rfl ?_)
              refine AOps.st 50 rfl rfl rfl (op_move rfl rfl ?_)
              refine AOps.gf 51 rfl rfl rfl rfl rfl ?_
              refine AOps.gf 52 rfl rfl rfl rfl rfl ?_
              refine AOps.st 53 rfl rfl rfl (op_pick rfl rfl rfl ?_)
              refine AOps.st 0 rfl rfl rfl (op_assign rfl rfl ?_)
              refine AOps.nil ?_
              refine BoolQ.mk rfl ?_ (by repeat' (first | exact SLe.wo _ _ | exact SLe.refl _ | refine SLe.fresh rfl ?_)) (by first | exact MLe.none _ | exact MLe.refl _ | (repeat' (first | exact MLe.nil | exact MLe.refl _ | refine MLe.cons _ ?_ | refine MLe.drop _ ?_)))
              simp_all; done
            · skip
              refine AOps.gt 42 rfl rfl rfl rfl rfl (op_move rfl rfl ?_)
              refine AOps.gt 43 rfl rfl rfl rfl rfl (op_move rfl rfl ?_)
              refine AOps.gt 44 rfl rfl rfl rfl rfl (op_len rfl tu_31 rfl (.seq _ _) (fun n44 => ?_))
              refine AOps.gt 45 rfl rfl rfl rfl rfl (op_sub rfl rfl rfl (IntWalk.i64_in _ (by omega)) ?_)
              refine AOps.gt 46 rfl rfl rfl rfl rfl (op_index rfl te_31 rfl (.seq _ _) rfl rfl (rfl) ?_)
              first | (refine AOps.gt 47 rfl rfl rfl rfl rfl (op_load_m1 (i := 0) rfl ta_5 rfl rfl rfl ?_)) | (refine AOps.gt 47 rfl rfl rfl rfl rfl (op_load_m1 (i := 1) rfl ta_5 rfl rfl rfl ?_)) | (refine AOps.gt 47 rfl rfl rfl rfl rfl (op_load_m1 (i := 2) rfl ta_5 rfl rfl rfl ?_)) | (refine AOps.gt 47 rfl rfl rfl rfl rfl (op_load_m1 (i := 3) rfl ta_5 rfl rfl rfl ?_)) | (refine AOps.gt 47 rfl rfl rfl rfl rfl (op_load_m1 (i := 4) rfl ta_5 rfl rfl rfl ?_)) | (refine AOps.gt 47 rfl rfl rfl rfl rfl (op_load_m1 (i := 5) rfl ta_5 rfl rfl rfl ?_)) | (refine AOps.gt 47 rfl rfl rfl rfl rfl (op_load_m1 (i := 6) rfl ta_5 rfl rfl rfl ?_)) | (refine AOps.gt 47 rfl rfl rfl rfl rfl (op_load_m1 (i := 7) rfl ta_5 rfl rfl rfl ?_)) | (refine AOps.gt 47 rfl rfl rfl rfl rfl (op_load_m1 (i := 8) rfl ta_5 rfl rfl rfl ?_)) | (refine AOps.gt 47 rfl rfl rfl rfl rfl (op_load_m1 (i := 9) rfl ta_5 rfl rfl rfl ?_)) | (refine AOps.gt 47 rfl rfl rfl rfl rfl (op_load_c1 rfl ta_5 rfl rfl ?_))
              refine AOps.gt 48 rfl rfl rfl rfl rfl (op_eql rfl rfl rfl ?_); intro c48 h48
              refine AOps.st 49 rfl rfl rfl (op_pick rfl rfl rfl ?_)
              refine AOps.st 50 rfl rfl rfl (op_move rfl rfl ?_)
              rcases bool_split h48 with ⟨rfl, g48⟩ | ⟨rfl, g48⟩
              · skip
                refine AOps.gf 51 rfl rfl rfl rfl rfl ?_
                refine AOps.gf 52 rfl rfl rfl rfl rfl ?_
                refine AOps.st 53 rfl rfl rfl (op_pick rfl rfl rfl ?_)
                refine AOps.st 0 rfl rfl rfl (op_assign rfl rfl ?_)
                refine AOps.nil ?_
                refine BoolQ.mk rfl ?_ (by repeat' (first | exact SLe.wo _ _ | exact SLe.refl _ | refine SLe.fresh rfl ?_)) (by first | exact MLe.none _ | exact MLe.refl _ | (repeat' (first | exact MLe.nil | exact MLe.refl _ | refine MLe.cons _ ?_ | refine MLe.drop _ ?_)))
                simp_all; done
              · skip
                refine AOps.gt 51 rfl rfl rfl rfl rfl (op_load_m (cs' := [_, _, _, _, _, _]) (i := 0) rfl ta_26 rfl rfl rfl rfl ?_)
                refine AOps.gt 52 rfl rfl rfl rfl rfl (op_callp (xs := [.tmp 51]) rfl rfl (HR) (by first | exact Les.refl _ | (repeat' (first | exact Les.refl _ | refine Les.cons ?_ ?_ | exact Le.refl _ | exact Le.own _ _ _ | exact Le.nil _ | refine Le.agg ?_))) ?_)
                refine AOps.st 53 rfl rfl rfl (op_pick rfl rfl rfl ?_)
                refine AOps.st 0 rfl rfl rfl (op_assign rfl rfl ?_)
                refine AOps.nil ?_
                refine BoolQ.mk rfl ?_ (by repeat' (first | exact SLe.wo _ _ | exact SLe.refl _ | refine SLe.fresh rfl ?_)) (by first | exact MLe.none _ | exact MLe.refl _ | (repeat' (first | exact MLe.nil | exact MLe.refl _ | refine MLe.cons _ ?_ | refine MLe.drop _ ?_)))
                simp_all; done
  intro c0 h0
  refine go_code ?_
  refine c_ret ?_
  exact out_tmp rfl rfl (Le.refl _) (by first | exact MLe.none _ | exact MLe.refl _ | (repeat' (first | exact MLe.nil | exact MLe.refl _ | refine MLe.cons _ ?_ | refine MLe.drop _ ?_))) ⟨by rw [h0.2 trivial], rfl⟩
end Go.Proofs.Ytadhakcmfkghbaa
