/- The code of an expression: a text, and an operation on it. -/
import Derived.Test.YtflkdojahfmbnaaB23d
namespace Go.Proofs.Ytflkdojahfmbnaa
open Go.RowKit
def nilA : AV := .val (.slice none 0 0)
set_option maxHeartbeats 4000000 in
set_option maxRecDepth 100000 in
theorem shaped3_c (nm : ByteArray) (n : Int) (kids : AV) : PCall Try.prog 27 [.agg (exC 3 nm n kids)] (.val (.bool true)) := by
  unfold exC
  refine ACall.enter Try.func27 rfl (by kernel_rfl) rfl (Nat.le_of_ble_eq_true rfl) ?_
  refine c_start ?_
  refine c_seq ?_
  refine c_region ?_
  refine AOps.st 1 rfl rfl rfl (op_boxc (cs' := [_, _, _, _, _, _, _, _, _, _, _]) rfl rfl rfl rfl ?_)
  refine AOps.st 2 rfl rfl rfl (op_assign rfl rfl ?_)
  refine AOps.nil ?_
  refine go_code ?_
  refine c_seq ?_
  refine c_seq ?_
  refine c_region ?_
  refine AOps.st 3 rfl rfl rfl (op_fieldAddr_c rfl tf_36_0 rfl rfl ?_)
  refine AOps.st 4 rfl rfl rfl (op_load_c1 rfl ta_3 rfl rfl ?_)
  refine AOps.nil ?_
  refine go_code ?_
  refine c_block ?_
  refine c_seq ?_
  refine c_region ?_
  refine AOps.st 6 rfl rfl rfl (op_eql rfl rfl rfl ?_); intro c6 h6
  refine AOps.st 5 rfl rfl rfl (op_assign rfl rfl ?_)
  refine AOps.nil ?_
  refine go_code ?_
  rcases bool_split h6 with ⟨rfl, g6⟩ | ⟨rfl, g6⟩
  · refine c_cond_f rfl ?_
    refine c_seq ?_
    refine c_seq ?_
    refine c_region ?_
    refine AOps.st 12 rfl rfl rfl (op_eql rfl rfl rfl ?_); intro c12 h12
    refine AOps.st 11 rfl rfl rfl (op_assign rfl rfl ?_)
    refine AOps.nil ?_
    refine go_code ?_
    rcases bool_split h12 with ⟨rfl, g12⟩ | ⟨rfl, g12⟩
    · refine c_cond_f rfl ?_
      refine c_seq ?_
      refine c_region ?_
      refine AOps.st 13 rfl rfl rfl (op_eql rfl rfl rfl ?_); intro c13 h13
      refine AOps.st 11 rfl rfl rfl (op_assign rfl rfl ?_)
      refine AOps.nil ?_
      refine go_code ?_
      rcases bool_split h13 with ⟨rfl, g13⟩ | ⟨rfl, g13⟩
      · refine c_cond_f rfl ?_
        refine c_seq ?_
        refine c_region ?_
        refine AOps.st 14 rfl rfl rfl (op_eql rfl rfl rfl ?_); intro c14 h14
        refine AOps.st 11 rfl rfl rfl (op_assign rfl rfl ?_)
        refine AOps.nil ?_
        refine go_code ?_
        rcases bool_split h14 with ⟨rfl, g14⟩ | ⟨rfl, g14⟩
        · refine c_cond_f rfl ?_
          refine c_region ?_
          refine AOps.st 15 rfl rfl rfl (op_eql rfl rfl rfl ?_); intro c15 h15
          refine AOps.st 11 rfl rfl rfl (op_assign rfl rfl ?_)
          refine AOps.nil ?_
          refine go_code ?_
          rcases bool_split h15 with ⟨rfl, g15⟩ | ⟨rfl, g15⟩
          · refine c_cond_f rfl ?_
            refine c_skip ?_
            refine go_blk ?_
            refine go_code ?_
            refine c_seq ?_
            refine c_region ?_
            refine AOps.st 2 rfl rfl rfl (op_assign rfl rfl ?_)
            refine AOps.nil ?_
            refine go_code ?_
            refine c_ret ?_
            exact out_tmp rfl rfl (Le.refl _) (by first | exact MLe.none _ | exact MLe.refl _ | (repeat' (first | exact MLe.nil | exact MLe.refl _ | refine MLe.cons _ ?_ | refine MLe.drop _ ?_))) ⟨rfl, rfl⟩
          · first | exact absurd g12 (by decide) | exact absurd g13 (by decide) | exact absurd g14 (by decide) | exact absurd g15 (by decide)
        · first | exact absurd g12 (by decide) | exact absurd g13 (by decide) | exact absurd g14 (by decide) | exact absurd g15 (by decide)
      · first | exact absurd g12 (by decide) | exact absurd g13 (by decide) | exact absurd g14 (by decide) | exact absurd g15 (by decide)
    · first | exact absurd g12 (by decide) | exact absurd g13 (by decide) | exact absurd g14 (by decide) | exact absurd g15 (by decide)
  · exact absurd g6 (by decide)
set_option maxHeartbeats 4000000 in
set_option maxRecDepth 100000 in
theorem shaped9_c (nm : ByteArray) (n : Int) (kids : AV) : PCall Try.prog 27 [.agg (exC 9 nm n kids)] (.val (.bool true)) := by
  unfold exC
  refine ACall.enter Try.func27 rfl (by kernel_rfl) rfl (Nat.le_of_ble_eq_true rfl) ?_
  refine c_start ?_
  refine c_seq ?_
  refine c_region ?_
  refine AOps.st 1 rfl rfl rfl (op_boxc (cs' := [_, _, _, _, _, _, _, _, _, _, _]) rfl rfl rfl rfl ?_)
  refine AOps.st 2 rfl rfl rfl (op_assign rfl rfl ?_)
  refine AOps.nil ?_
  refine go_code ?_
  refine c_seq ?_
  refine c_seq ?_
  refine c_region ?_
  refine AOps.st 3 rfl rfl rfl (op_fieldAddr_c rfl tf_36_0 rfl rfl ?_)
  refine AOps.st 4 rfl rfl rfl (op_load_c1 rfl ta_3 rfl rfl ?_)
  refine AOps.nil ?_
  refine go_code ?_
  refine c_block ?_
  refine c_seq ?_
  refine c_region ?_
  refine AOps.st 6 rfl rfl rfl (op_eql rfl rfl rfl ?_); intro c6 h6
  refine AOps.st 5 rfl rfl rfl (op_assign rfl rfl ?_)
  refine AOps.nil ?_
  refine go_code ?_
  rcases bool_split h6 with ⟨rfl, g6⟩ | ⟨rfl, g6⟩
  · refine c_cond_f rfl ?_
    refine c_seq ?_
    refine c_seq ?_
    refine c_region ?_
    refine AOps.st 12 rfl rfl rfl (op_eql rfl rfl rfl ?_); intro c12 h12
    refine AOps.st 11 rfl rfl rfl (op_assign rfl rfl ?_)
    refine AOps.nil ?_
    refine go_code ?_
    rcases bool_split h12 with ⟨rfl, g12⟩ | ⟨rfl, g12⟩
    · refine c_cond_f rfl ?_
      refine c_seq ?_
      refine c_region ?_
      refine AOps.st 13 rfl rfl rfl (op_eql rfl rfl rfl ?_); intro c13 h13
      refine AOps.st 11 rfl rfl rfl (op_assign rfl rfl ?_)
      refine AOps.nil ?_
      refine go_code ?_
      rcases bool_split h13 with ⟨rfl, g13⟩ | ⟨rfl, g13⟩
      · refine c_cond_f rfl ?_
        refine c_seq ?_
        refine c_region ?_
        refine AOps.st 14 rfl rfl rfl (op_eql rfl rfl rfl ?_); intro c14 h14
        refine AOps.st 11 rfl rfl rfl (op_assign rfl rfl ?_)
        refine AOps.nil ?_
        refine go_code ?_
        rcases bool_split h14 with ⟨rfl, g14⟩ | ⟨rfl, g14⟩
        · refine c_cond_f rfl ?_
          refine c_region ?_
          refine AOps.st 15 rfl rfl rfl (op_eql rfl rfl rfl ?_); intro c15 h15
          refine AOps.st 11 rfl rfl rfl (op_assign rfl rfl ?_)
          refine AOps.nil ?_
          refine go_code ?_
          rcases bool_split h15 with ⟨rfl, g15⟩ | ⟨rfl, g15⟩
          · refine c_cond_f rfl ?_
            refine c_skip ?_
            refine go_blk ?_
            refine go_code ?_
            refine c_seq ?_
            refine c_region ?_
            refine AOps.st 2 rfl rfl rfl (op_assign rfl rfl ?_)
            refine AOps.nil ?_
            refine go_code ?_
            refine c_ret ?_
            exact out_tmp rfl rfl (Le.refl _) (by first | exact MLe.none _ | exact MLe.refl _ | (repeat' (first | exact MLe.nil | exact MLe.refl _ | refine MLe.cons _ ?_ | refine MLe.drop _ ?_))) ⟨rfl, rfl⟩
          · first | exact absurd g12 (by decide) | exact absurd g13 (by decide) | exact absurd g14 (by decide) | exact absurd g15 (by decide)
        · first | exact absurd g12 (by decide) | exact absurd g13 (by decide) | exact absurd g14 (by decide) | exact absurd g15 (by decide)
      · first | exact absurd g12 (by decide) | exact absurd g13 (by decide) | exact absurd g14 (by decide) | exact absurd g15 (by decide)
    · first | exact absurd g12 (by decide) | exact absurd g13 (by decide) | exact absurd g14 (by decide) | exact absurd g15 (by decide)
  · exact absurd g6 (by decide)
/-- the code of a text -/
def strF (s : ByteArray) : AV := .clo (.func 44) [] [.cptr [.clo (.func 32) [] [.cptr (vlC 1 s)]]]
set_option maxHeartbeats 4000000 in
set_option maxRecDepth 100000 in
theorem exp3_c (c : AV) (s : ByteArray) : PCall Try.prog 20 [c, .agg (exC 3 s 0 nilA), nilA] (strF s) := by
  have HS := shaped3_c s 0 nilA
  have HW := wrap_c (.func 32) [] [.cptr (vlC 1 s)]
  unfold strF
  unfold exC vlC nilA at *
  refine ACall.enter Try.func20 rfl (by kernel_rfl) rfl (Nat.le_of_ble_eq_true rfl) ?_
  refine c_start ?_
  refine c_seq ?_
  refine c_region ?_
  refine AOps.st 4 rfl rfl rfl (op_boxc (cs' := [_, _, _, _, _, _, _, _, _, _, _]) rfl rfl rfl rfl ?_)
  refine AOps.st 6 rfl rfl rfl (op_assign rfl rfl ?_)
  refine AOps.nil ?_
  refine go_code ?_
  refine c_seq ?_
  refine c_seq ?_
  refine c_region ?_
  refine AOps.st 14 rfl rfl rfl (op_load_c (cs' := [_, _, _, _, _, _, _, _, _, _, _]) rfl ta_36 rfl rfl rfl ?_)
  refine AOps.st 15 rfl rfl rfl (op_callp (xs := [.tmp 14]) rfl rfl (HS) (by first | exact Les.refl _ | (repeat' (first | exact Les.refl _ | refine Les.cons ?_ ?_ | exact Le.refl _ | exact Le.own _ _ _ | exact Le.nil _ | refine Le.agg ?_))) ?_)
  refine AOps.st 16 rfl rfl rfl (op_notc rfl rfl ?_); intro c16 h16
  try replace h16 := nott h16 h15
  refine AOps.nil ?_
  refine go_code ?_
  rcases bool_split h16 with ⟨rfl, g16⟩ | ⟨rfl, g16⟩
  · refine c_cond_f rfl ?_
    refine c_skip ?_
    refine go_code ?_
    refine c_seq ?_
    refine c_seq ?_
    refine c_region ?_
    refine AOps.st 18 rfl rfl rfl (op_fieldAddr_c rfl tf_36_0 rfl rfl ?_)
    refine AOps.st 19 rfl rfl rfl (op_load_c1 rfl ta_3 rfl rfl ?_)
    refine AOps.nil ?_
    refine go_code ?_
    refine c_block ?_
    refine c_seq ?_
    refine c_region ?_
    refine AOps.st 21 rfl rfl rfl (op_eql rfl rfl rfl ?_); intro c21 h21
    refine AOps.st 20 rfl rfl rfl (op_assign rfl rfl ?_)
    refine AOps.nil ?_
    refine go_code ?_
    rcases bool_split h21 with ⟨rfl, g21⟩ | ⟨rfl, g21⟩
    · refine c_cond_f rfl ?_
      refine c_seq ?_
      refine c_region ?_
      refine AOps.st 29 rfl rfl rfl (op_eql rfl rfl rfl ?_); intro c29 h29
      refine AOps.st 28 rfl rfl rfl (op_assign rfl rfl ?_)
      refine AOps.nil ?_
      refine go_code ?_
      rcases bool_split h29 with ⟨rfl, g29⟩ | ⟨rfl, g29⟩
      · refine c_cond_f rfl ?_
        refine c_seq ?_
        refine c_region ?_
        refine AOps.st 37 rfl rfl rfl (op_eql rfl rfl rfl ?_); intro c37 h37
        refine AOps.st 36 rfl rfl rfl (op_assign rfl rfl ?_)
        refine AOps.nil ?_
        refine go_code ?_
        rcases bool_split h37 with ⟨rfl, g37⟩ | ⟨rfl, g37⟩
        · exact absurd rfl g37
        · refine c_cond_t rfl ?_
          refine c_seq ?_
          refine c_region ?_
          refine AOps.st 38 rfl rfl rfl (op_fieldAddr_c rfl tf_36_1 rfl rfl ?_)
          refine AOps.st 39 rfl rfl rfl (op_load_c1 rfl ta_9 rfl rfl ?_)
          refine AOps.st 40 rfl rfl rfl (op_build (ns := [0, 2]) (xs := [.const (.int .i64 1), .tmp 39]) rfl tz_69 rfl tfl_69 rfl rfl rfl rfl ?_)
          refine AOps.st 8 rfl rfl rfl (op_alloce (cs' := [_, _, _, _, _, _]) rfl tz_69 rfl rfl ?_); intro b8
          first | (refine AOps.st0 rfl rfl (op_store (cs' := [_, _, _, _, _, _]) (i := 0) rfl ts_69 rfl rfl rfl rfl rfl (Nat.le_of_ble_eq_true rfl) rfl ?_)) | (refine AOps.st0 rfl rfl (op_store (cs' := [_, _, _, _, _, _]) (i := 1) rfl ts_69 rfl rfl rfl rfl rfl (Nat.le_of_ble_eq_true rfl) rfl ?_)) | (refine AOps.st0 rfl rfl (op_store (cs' := [_, _, _, _, _, _]) (i := 2) rfl ts_69 rfl rfl rfl rfl rfl (Nat.le_of_ble_eq_true rfl) rfl ?_)) | (refine AOps.st0 rfl rfl (op_store (cs' := [_, _, _, _, _, _]) (i := 3) rfl ts_69 rfl rfl rfl rfl rfl (Nat.le_of_ble_eq_true rfl) rfl ?_)) | (refine AOps.st0 rfl rfl (op_store (cs' := [_, _, _, _, _, _]) (i := 4) rfl ts_69 rfl rfl rfl rfl rfl (Nat.le_of_ble_eq_true rfl) rfl ?_)) | (refine AOps.st0 rfl rfl (op_store (cs' := [_, _, _, _, _, _]) (i := 5) rfl ts_69 rfl rfl rfl rfl rfl (Nat.le_of_ble_eq_true rfl) rfl ?_)) | (refine AOps.st0 rfl rfl (op_store (cs' := [_, _, _, _, _, _]) (i := 6) rfl ts_69 rfl rfl rfl rfl rfl (Nat.le_of_ble_eq_true rfl) rfl ?_)) | (refine AOps.st0 rfl rfl (op_store (cs' := [_, _, _, _, _, _]) (i := 7) rfl ts_69 rfl rfl rfl rfl rfl (Nat.le_of_ble_eq_true rfl) rfl ?_)) | (refine AOps.st0 rfl rfl (op_store (cs' := [_, _, _, _, _, _]) (i := 8) rfl ts_69 rfl rfl rfl rfl rfl (Nat.le_of_ble_eq_true rfl) rfl ?_)) | (refine AOps.st0 rfl rfl (op_store (cs' := [_, _, _, _, _, _]) (i := 9) rfl ts_69 rfl rfl rfl rfl rfl (Nat.le_of_ble_eq_true rfl) rfl ?_))
          refine AOps.nil ?_
          refine go_code ?_
          refine c_seq ?_
          refine c_fixl 8 0 rfl rfl ?_
          refine c_region ?_
          refine AOps.st 41 rfl rfl rfl (op_makeFunc (fs := []) (cs := [.tmp 8]) rfl rfl rfl ?_)
          refine AOps.st 42 rfl rfl rfl (op_callp (xs := [.tmp 41]) rfl rfl (HW) (by first | exact Les.refl _ | (repeat' (first | exact Les.refl _ | refine Les.cons ?_ ?_ | exact Le.refl _ | exact Le.own _ _ _ | exact Le.nil _ | refine Le.agg ?_))) ?_)
          refine AOps.st 6 rfl rfl rfl (op_assign rfl rfl ?_)
          refine AOps.nil ?_
          refine go_code ?_
          refine c_ret ?_
          exact out_tmp rfl rfl (Le.refl _) (by first | exact MLe.none _ | exact MLe.refl _ | (repeat' (first | exact MLe.nil | exact MLe.refl _ | refine MLe.cons _ ?_ | refine MLe.drop _ ?_))) ⟨rfl, rfl⟩
      · exact absurd g29 (by decide)
    · exact absurd g21 (by decide)
  · first | exact absurd g16 (by decide) | simp_all
set_option maxHeartbeats 4000000 in
set_option maxRecDepth 100000 in
theorem all_c (c : AV) (s : ByteArray) : PCall Try.prog 33 [c, .seq 11 [exC 3 s 0 nilA], nilA] (.seq 1 [[strF s]]) := by
  have HE := exp3_c c s
  unfold exC nilA at *
  refine ACall.enter Try.func33 rfl (by kernel_rfl) rfl (Nat.le_of_ble_eq_true rfl) ?_
  refine c_start ?_
  refine c_seq ?_
  refine c_region ?_
  refine AOps.st 6 rfl rfl rfl (op_assign rfl rfl ?_)
  refine AOps.nil ?_
  refine go_code ?_
  refine c_seq ?_
  refine c_region ?_
  refine AOps.st 7 rfl rfl rfl (op_assign rfl rfl ?_)
  refine AOps.nil ?_
  refine go_code ?_
  refine c_seq ?_
  refine c_seq ?_
  refine c_region ?_
  refine AOps.st 10 rfl rfl rfl (op_move rfl rfl ?_)
  first | (refine AOps.st 11 rfl rfl rfl (op_len rfl tu_32 rfl (.seq _ _) (fun n11 => ?_))) | (refine AOps.st 11 rfl rfl rfl (op_len rfl tu_32 rfl (.own _ _ _) (fun n11 => ?_))) | (refine AOps.st 11 rfl rfl rfl (op_len rfl tu_32 rfl (.nil 0) (fun n11 => ?_))) | (refine AOps.st 11 rfl rfl rfl (op_len_arr rfl tu_32 rfl ?_))
  refine AOps.st 12 rfl rfl rfl (op_move rfl rfl ?_)
  refine AOps.nil ?_
  refine go_code ?_
  refine c_block ?_
  apply c_loopkm [1, 3, 4, 5, 7, 8, 9, 12, 13, 14, 15, 16, 17, 18, 19, 20, 21, 22, 23] (σ := Nat) (fun zz => match zz with | i => [(12, .val (.int .i64 i)), (7, alt (.val (.slice none 0 0)) (.seq 1 [[strF s]]) i)]) (fun zz => match zz with | i => i ≤ 1) (fun zz => match zz with | i => 1 - i) (0)
  · repeat' (first | exact Drops.nil | apply Drops.keep rfl | apply Drops.skip rfl)
  · exact Nat.zero_le _
  · exact (by repeat' (first | exact SLe.nil _ | refine SLe.cons rfl ?_ ?_ | exact Le.refl _ | exact Le.own _ _ _ | exact Le.nil _))
  rintro i hI
  try dsimp only [List.cons_append, List.nil_append] at hI ⊢
  refine c_seq ?_
  refine c_region ?_
  refine AOps.st 13 rfl rfl rfl (op_lss rfl rfl rfl ?_); intro c13 h13
  refine AOps.nil ?_
  refine go_code ?_
  refine c_seq ?_
  rcases bool_split h13 with ⟨rfl, g13⟩ | ⟨rfl, g13⟩
  · refine c_cond_f rfl ?_
    refine c_exit ?_
    refine x_code ?_
    refine x_lp ?_
    refine x_here ?_
    refine go_code ?_
    refine c_seq ?_
    obtain rfl : i = 1 := by simp at g13; omega
    simp only [alt]
    refine c_region ?_
    refine AOps.st 24 rfl rfl rfl (op_move rfl rfl ?_)
    refine AOps.st 6 rfl rfl rfl (op_assign rfl rfl ?_)
    refine AOps.nil ?_
    refine go_code ?_
    refine c_ret ?_
    exact out_tmp rfl rfl (Le.refl _) (by first | exact MLe.none _ | exact MLe.refl _ | (repeat' (first | exact MLe.nil | exact MLe.refl _ | refine MLe.cons _ ?_ | refine MLe.drop _ ?_))) ⟨rfl, rfl⟩
  · refine c_cond_t rfl ?_
    refine c_skip ?_
    refine go_code ?_
    refine c_seq ?_
    refine c_block ?_
    refine c_seq ?_
    obtain rfl : i = 0 := by simp at g13; omega
    simp only [alt]
    refine c_region ?_
    first | (refine AOps.st 14 rfl rfl rfl (op_index rfl te_32 rfl (.seq _ _) rfl rfl (by assumption) ?_)) | (refine AOps.st 14 rfl rfl rfl (op_index (i := 0) rfl te_32 rfl (.seq _ _) rfl rfl (by first | rfl | assumption) ?_)) | (refine AOps.st 14 rfl rfl rfl (op_index (i := 1) rfl te_32 rfl (.seq _ _) rfl rfl (by first | rfl | assumption) ?_)) | (refine AOps.st 14 rfl rfl rfl (op_index rfl te_32 rfl (.own _ _ _) rfl rfl (by assumption) ?_)) | (refine AOps.st 14 rfl rfl rfl (op_index (i := 0) rfl te_32 rfl (.own _ _ _) rfl rfl (by first | rfl | assumption) ?_)) | (refine AOps.st 14 rfl rfl rfl (op_index (i := 1) rfl te_32 rfl (.own _ _ _) rfl rfl (by first | rfl | assumption) ?_)) | (refine AOps.st 14 rfl rfl rfl (op_index_arr rfl te_32 rfl rfl rfl (by omega) ?_))
    first | (refine AOps.st 15 rfl rfl rfl (op_load_m (cs' := [_, _, _, _, _, _, _, _, _, _, _]) (i := 0) rfl ta_36 rfl rfl rfl rfl ?_)) | (refine AOps.st 15 rfl rfl rfl (op_load_m (cs' := [_, _, _, _, _, _, _, _, _, _, _]) (i := 1) rfl ta_36 rfl rfl rfl rfl ?_)) | (refine AOps.st 15 rfl rfl rfl (op_load_m (cs' := [_, _, _, _, _, _, _, _, _, _, _]) (i := 2) rfl ta_36 rfl rfl rfl rfl ?_)) | (refine AOps.st 15 rfl rfl rfl (op_load_m (cs' := [_, _, _, _, _, _, _, _, _, _, _]) (i := 3) rfl ta_36 rfl rfl rfl rfl ?_)) | (refine AOps.st 15 rfl rfl rfl (op_load_m (cs' := [_, _, _, _, _, _, _, _, _, _, _]) (i := 4) rfl ta_36 rfl rfl rfl rfl ?_)) | (refine AOps.st 15 rfl rfl rfl (op_load_m (cs' := [_, _, _, _, _, _, _, _, _, _, _]) (i := 5) rfl ta_36 rfl rfl rfl rfl ?_)) | (refine AOps.st 15 rfl rfl rfl (op_load_m (cs' := [_, _, _, _, _, _, _, _, _, _, _]) (i := 6) rfl ta_36 rfl rfl rfl rfl ?_)) | (refine AOps.st 15 rfl rfl rfl (op_load_m (cs' := [_, _, _, _, _, _, _, _, _, _, _]) (i := 7) rfl ta_36 rfl rfl rfl rfl ?_)) | (refine AOps.st 15 rfl rfl rfl (op_load_m (cs' := [_, _, _, _, _, _, _, _, _, _, _]) (i := 8) rfl ta_36 rfl rfl rfl rfl ?_)) | (refine AOps.st 15 rfl rfl rfl (op_load_m (cs' := [_, _, _, _, _, _, _, _, _, _, _]) (i := 9) rfl ta_36 rfl rfl rfl rfl ?_)) | (refine AOps.st 15 rfl rfl rfl (op_load_c (cs' := [_, _, _, _, _, _, _, _, _, _, _]) rfl ta_36 rfl rfl rfl ?_))
    refine AOps.st 9 rfl rfl rfl (op_alloce (cs' := [_, _, _, _, _, _, _, _, _, _, _]) rfl tz_36 rfl rfl ?_); intro b9
    first | (refine AOps.st0 rfl rfl (op_store (cs' := [_, _, _, _, _, _, _, _, _, _, _]) (i := 0) rfl ts_36 rfl rfl rfl rfl rfl (Nat.le_of_ble_eq_true rfl) rfl ?_)) | (refine AOps.st0 rfl rfl (op_store (cs' := [_, _, _, _, _, _, _, _, _, _, _]) (i := 1) rfl ts_36 rfl rfl rfl rfl rfl (Nat.le_of_ble_eq_true rfl) rfl ?_)) | (refine AOps.st0 rfl rfl (op_store (cs' := [_, _, _, _, _, _, _, _, _, _, _]) (i := 2) rfl ts_36 rfl rfl rfl rfl rfl (Nat.le_of_ble_eq_true rfl) rfl ?_)) | (refine AOps.st0 rfl rfl (op_store (cs' := [_, _, _, _, _, _, _, _, _, _, _]) (i := 3) rfl ts_36 rfl rfl rfl rfl rfl (Nat.le_of_ble_eq_true rfl) rfl ?_)) | (refine AOps.st0 rfl rfl (op_store (cs' := [_, _, _, _, _, _, _, _, _, _, _]) (i := 4) rfl ts_36 rfl rfl rfl rfl rfl (Nat.le_of_ble_eq_true rfl) rfl ?_)) | (refine AOps.st0 rfl rfl (op_store (cs' := [_, _, _, _, _, _, _, _, _, _, _]) (i := 5) rfl ts_36 rfl rfl rfl rfl rfl (Nat.le_of_ble_eq_true rfl) rfl ?_)) | (refine AOps.st0 rfl rfl (op_store (cs' := [_, _, _, _, _, _, _, _, _, _, _]) (i := 6) rfl ts_36 rfl rfl rfl rfl rfl (Nat.le_of_ble_eq_true rfl) rfl ?_)) | (refine AOps.st0 rfl rfl (op_store (cs' := [_, _, _, _, _, _, _, _, _, _, _]) (i := 7) rfl ts_36 rfl rfl rfl rfl rfl (Nat.le_of_ble_eq_true rfl) rfl ?_)) | (refine AOps.st0 rfl rfl (op_store (cs' := [_, _, _, _, _, _, _, _, _, _, _]) (i := 8) rfl ts_36 rfl rfl rfl rfl rfl (Nat.le_of_ble_eq_true rfl) rfl ?_)) | (refine AOps.st0 rfl rfl (op_store (cs' := [_, _, _, _, _, _, _, _, _, _, _]) (i := 9) rfl ts_36 rfl rfl rfl rfl rfl (Nat.le_of_ble_eq_true rfl) rfl ?_))
    refine AOps.nil ?_
    refine go_code ?_
    refine c_region ?_
    refine AOps.st 16 rfl rfl rfl (op_move rfl rfl ?_)
    refine AOps.st 17 rfl rfl rfl (op_move rfl rfl ?_)
    first | (refine AOps.st 18 rfl rfl rfl (op_load_m (cs' := [_, _, _, _, _, _, _, _, _, _, _]) (i := 0) rfl ta_36 rfl rfl rfl rfl ?_)) | (refine AOps.st 18 rfl rfl rfl (op_load_m (cs' := [_, _, _, _, _, _, _, _, _, _, _]) (i := 1) rfl ta_36 rfl rfl rfl rfl ?_)) | (refine AOps.st 18 rfl rfl rfl (op_load_m (cs' := [_, _, _, _, _, _, _, _, _, _, _]) (i := 2) rfl ta_36 rfl rfl rfl rfl ?_)) | (refine AOps.st 18 rfl rfl rfl (op_load_m (cs' := [_, _, _, _, _, _, _, _, _, _, _]) (i := 3) rfl ta_36 rfl rfl rfl rfl ?_)) | (refine AOps.st 18 rfl rfl rfl (op_load_m (cs' := [_, _, _, _, _, _, _, _, _, _, _]) (i := 4) rfl ta_36 rfl rfl rfl rfl ?_)) | (refine AOps.st 18 rfl rfl rfl (op_load_m (cs' := [_, _, _, _, _, _, _, _, _, _, _]) (i := 5) rfl ta_36 rfl rfl rfl rfl ?_)) | (refine AOps.st 18 rfl rfl rfl (op_load_m (cs' := [_, _, _, _, _, _, _, _, _, _, _]) (i := 6) rfl ta_36 rfl rfl rfl rfl ?_)) | (refine AOps.st 18 rfl rfl rfl (op_load_m (cs' := [_, _, _, _, _, _, _, _, _, _, _]) (i := 7) rfl ta_36 rfl rfl rfl rfl ?_)) | (refine AOps.st 18 rfl rfl rfl (op_load_m (cs' := [_, _, _, _, _, _, _, _, _, _, _]) (i := 8) rfl ta_36 rfl rfl rfl rfl ?_)) | (refine AOps.st 18 rfl rfl rfl (op_load_m (cs' := [_, _, _, _, _, _, _, _, _, _, _]) (i := 9) rfl ta_36 rfl rfl rfl rfl ?_)) | (refine AOps.st 18 rfl rfl rfl (op_load_c (cs' := [_, _, _, _, _, _, _, _, _, _, _]) rfl ta_36 rfl rfl rfl ?_))
    refine AOps.st 19 rfl rfl rfl (op_move rfl rfl ?_)
    refine AOps.st 20 rfl rfl rfl (op_callp (xs := [.tmp 17, .tmp 18, .tmp 19]) rfl rfl (HE) (by first | exact Les.refl _ | (repeat' (first | exact Les.refl _ | refine Les.cons ?_ ?_ | exact Le.refl _ | exact Le.own _ _ _ | exact Le.nil _ | refine Le.agg ?_))) ?_)
    refine AOps.st 21 rfl rfl rfl (op_buildSlice_own (xs := [.tmp 20]) el_83 rfl rfl rfl rfl rfl rfl (Nat.le_of_ble_eq_true rfl) ?_); intro u21
    first | (refine AOps.st 22 rfl rfl rfl (op_append (i := 0) el_83 rfl rfl rfl rfl (.seq _ _) (by first | (simp; done) | (simp; omega) | omega) ?_)) | (refine AOps.st 22 rfl rfl rfl (op_append (i := 1) el_83 rfl rfl rfl rfl (.seq _ _) (by first | (simp; done) | (simp; omega) | omega) ?_)) | (refine AOps.st 22 rfl rfl rfl (op_append (i := 2) el_83 rfl rfl rfl rfl (.seq _ _) (by first | (simp; done) | (simp; omega) | omega) ?_)) | (refine AOps.st 22 rfl rfl rfl (op_append (i := 3) el_83 rfl rfl rfl rfl (.seq _ _) (by first | (simp; done) | (simp; omega) | omega) ?_)) | (refine AOps.st 22 rfl rfl rfl (op_append (i := 4) el_83 rfl rfl rfl rfl (.seq _ _) (by first | (simp; done) | (simp; omega) | omega) ?_)) | (refine AOps.st 22 rfl rfl rfl (op_append (i := 5) el_83 rfl rfl rfl rfl (.seq _ _) (by first | (simp; done) | (simp; omega) | omega) ?_)) | (refine AOps.st 22 rfl rfl rfl (op_append (i := 6) el_83 rfl rfl rfl rfl (.seq _ _) (by first | (simp; done) | (simp; omega) | omega) ?_)) | (refine AOps.st 22 rfl rfl rfl (op_append (i := 7) el_83 rfl rfl rfl rfl (.seq _ _) (by first | (simp; done) | (simp; omega) | omega) ?_)) | (refine AOps.st 22 rfl rfl rfl (op_append (i := 8) el_83 rfl rfl rfl rfl (.seq _ _) (by first | (simp; done) | (simp; omega) | omega) ?_)) | (refine AOps.st 22 rfl rfl rfl (op_append (i := 0) el_83 rfl rfl rfl rfl (.own _ _ _) (by first | (simp; done) | (simp; omega) | omega) ?_)) | (refine AOps.st 22 rfl rfl rfl (op_append (i := 1) el_83 rfl rfl rfl rfl (.own _ _ _) (by first | (simp; done) | (simp; omega) | omega) ?_)) | (refine AOps.st 22 rfl rfl rfl (op_append (i := 2) el_83 rfl rfl rfl rfl (.own _ _ _) (by first | (simp; done) | (simp; omega) | omega) ?_)) | (refine AOps.st 22 rfl rfl rfl (op_append (i := 3) el_83 rfl rfl rfl rfl (.own _ _ _) (by first | (simp; done) | (simp; omega) | omega) ?_)) | (refine AOps.st 22 rfl rfl rfl (op_append (i := 4) el_83 rfl rfl rfl rfl (.own _ _ _) (by first | (simp; done) | (simp; omega) | omega) ?_)) | (refine AOps.st 22 rfl rfl rfl (op_append (i := 5) el_83 rfl rfl rfl rfl (.own _ _ _) (by first | (simp; done) | (simp; omega) | omega) ?_)) | (refine AOps.st 22 rfl rfl rfl (op_append (i := 6) el_83 rfl rfl rfl rfl (.own _ _ _) (by first | (simp; done) | (simp; omega) | omega) ?_)) | (refine AOps.st 22 rfl rfl rfl (op_append (i := 7) el_83 rfl rfl rfl rfl (.own _ _ _) (by first | (simp; done) | (simp; omega) | omega) ?_)) | (refine AOps.st 22 rfl rfl rfl (op_append (i := 8) el_83 rfl rfl rfl rfl (.own _ _ _) (by first | (simp; done) | (simp; omega) | omega) ?_)) | (refine AOps.st 22 rfl rfl rfl (op_append (i := 0) el_83 rfl rfl rfl rfl (.nil _) (by first | (simp; done) | (simp; omega) | omega) ?_)) | (refine AOps.st 22 rfl rfl rfl (op_append (i := 1) el_83 rfl rfl rfl rfl (.nil _) (by first | (simp; done) | (simp; omega) | omega) ?_)) | (refine AOps.st 22 rfl rfl rfl (op_append (i := 2) el_83 rfl rfl rfl rfl (.nil _) (by first | (simp; done) | (simp; omega) | omega) ?_)) | (refine AOps.st 22 rfl rfl rfl (op_append (i := 3) el_83 rfl rfl rfl rfl (.nil _) (by first | (simp; done) | (simp; omega) | omega) ?_)) | (refine AOps.st 22 rfl rfl rfl (op_append (i := 4) el_83 rfl rfl rfl rfl (.nil _) (by first | (simp; done) | (simp; omega) | omega) ?_)) | (refine AOps.st 22 rfl rfl rfl (op_append (i := 5) el_83 rfl rfl rfl rfl (.nil _) (by first | (simp; done) | (simp; omega) | omega) ?_)) | (refine AOps.st 22 rfl rfl rfl (op_append (i := 6) el_83 rfl rfl rfl rfl (.nil _) (by first | (simp; done) | (simp; omega) | omega) ?_)) | (refine AOps.st 22 rfl rfl rfl (op_append (i := 7) el_83 rfl rfl rfl rfl (.nil _) (by first | (simp; done) | (simp; omega) | omega) ?_)) | (refine AOps.st 22 rfl rfl rfl (op_append (i := 8) el_83 rfl rfl rfl rfl (.nil _) (by first | (simp; done) | (simp; omega) | omega) ?_)) | (refine AOps.st 22 rfl rfl rfl (op_append_nil el_83 rfl rfl rfl (.seq _ _) (by first | (simp; done) | (simp; omega) | omega) ?_)) | (refine AOps.st 22 rfl rfl rfl (op_append_nil el_83 rfl rfl rfl (.own _ _ _) (by first | (simp; done) | (simp; omega) | omega) ?_)) | (refine AOps.st 22 rfl rfl rfl (op_append_nil el_83 rfl rfl rfl (.nil _) (by first | (simp; done) | (simp; omega) | omega) ?_))
    intro u22
    refine AOps.st 7 rfl rfl rfl (op_assign rfl rfl ?_)
    refine AOps.nil ?_
    refine go_blk ?_
    refine go_code ?_
    refine c_region ?_
    first | (refine AOps.st 23 rfl rfl rfl (op_add rfl rfl rfl (IntWalk.i64_in _ (by omega)) ?_)) | (refine AOps.st 23 rfl rfl rfl (op_add rfl rfl rfl rfl ?_))
    refine AOps.st 12 rfl rfl rfl (op_move rfl rfl ?_)
    refine AOps.nil ?_
    refine go_lp ?_
    exact ⟨1, by decide, by decide, (by repeat' (first | exact SLe.nil _ | refine SLe.cons rfl ?_ ?_ | exact Le.refl _ | exact Le.own _ _ _ | exact Le.nil _)), (by first | exact MLe.none _ | exact MLe.refl _ | (repeat' (first | exact MLe.nil | exact MLe.refl _ | refine MLe.cons _ ?_ | refine MLe.drop _ ?_)))⟩
def putE (s : ByteArray) : List AV := exC 9 ⟨#[]⟩ 13 (.seq 11 [exC 3 s 0 nilA])
/-- the code of 'put' of a text -/
def putF (s : ByteArray) : AV := .clo (.func 44) [] [.cptr [.clo (.func 40) [] [.cptr (putE s), .cptr [.seq 1 [[strF s]]]]]]
set_option maxHeartbeats 4000000 in
set_option maxRecDepth 100000 in
theorem exp9_c (c : AV) (s : ByteArray) : PCall Try.prog 20 [c, .agg (putE s), nilA] (putF s) := by
  have HS := shaped9_c ⟨#[]⟩ 13 (.seq 11 [exC 3 s 0 nilA])
  have HA := all_c c s
  have HW := wrap_c (.func 40) [] [.cptr (putE s), .cptr [.seq 1 [[strF s]]]]
  unfold putF
  unfold putE at *
  unfold exC at *
  unfold nilA at *
  refine ACall.enter Try.func20 rfl (by kernel_rfl) rfl (Nat.le_of_ble_eq_true rfl) ?_
  refine c_start ?_
  refine c_seq ?_
  refine c_region ?_
  refine AOps.st 4 rfl rfl rfl (op_boxc (cs' := [_, _, _, _, _, _, _, _, _, _, _]) rfl rfl rfl rfl ?_)
  refine AOps.st 6 rfl rfl rfl (op_assign rfl rfl ?_)
  refine AOps.nil ?_
  refine go_code ?_
  refine c_seq ?_
  refine c_seq ?_
  refine c_region ?_
  refine AOps.st 14 rfl rfl rfl (op_load_c (cs' := [_, _, _, _, _, _, _, _, _, _, _]) rfl ta_36 rfl rfl rfl ?_)
  refine AOps.st 15 rfl rfl rfl (op_callp (xs := [.tmp 14]) rfl rfl (HS) (by first | exact Les.refl _ | (repeat' (first | exact Les.refl _ | refine Les.cons ?_ ?_ | exact Le.refl _ | exact Le.own _ _ _ | exact Le.nil _ | refine Le.agg ?_))) ?_)
  refine AOps.st 16 rfl rfl rfl (op_notc rfl rfl ?_); intro c16 h16
  try replace h16 := nott h16 h15
  refine AOps.nil ?_
  refine go_code ?_
  rcases bool_split h16 with ⟨rfl, g16⟩ | ⟨rfl, g16⟩
  · refine c_cond_f rfl ?_
    refine c_skip ?_
    refine go_code ?_
    refine c_seq ?_
    refine c_seq ?_
    refine c_region ?_
    refine AOps.st 18 rfl rfl rfl (op_fieldAddr_c rfl tf_36_0 rfl rfl ?_)
    refine AOps.st 19 rfl rfl rfl (op_load_c1 rfl ta_3 rfl rfl ?_)
    refine AOps.nil ?_
    refine go_code ?_
    refine c_block ?_
    refine c_seq ?_
    refine c_region ?_
    refine AOps.st 21 rfl rfl rfl (op_eql rfl rfl rfl ?_); intro c21 h21
    refine AOps.st 20 rfl rfl rfl (op_assign rfl rfl ?_)
    refine AOps.nil ?_
    refine go_code ?_
    rcases bool_split h21 with ⟨rfl, g21⟩ | ⟨rfl, g21⟩
    · refine c_cond_f rfl ?_
      refine c_seq ?_
      refine c_region ?_
      refine AOps.st 29 rfl rfl rfl (op_eql rfl rfl rfl ?_); intro c29 h29
      refine AOps.st 28 rfl rfl rfl (op_assign rfl rfl ?_)
      refine AOps.nil ?_
      refine go_code ?_
      rcases bool_split h29 with ⟨rfl, g29⟩ | ⟨rfl, g29⟩
      · refine c_cond_f rfl ?_
        refine c_seq ?_
        refine c_region ?_
        refine AOps.st 37 rfl rfl rfl (op_eql rfl rfl rfl ?_); intro c37 h37
        refine AOps.st 36 rfl rfl rfl (op_assign rfl rfl ?_)
        refine AOps.nil ?_
        refine go_code ?_
        rcases bool_split h37 with ⟨rfl, g37⟩ | ⟨rfl, g37⟩
        · refine c_cond_f rfl ?_
          refine c_seq ?_
          refine c_seq ?_
          refine c_region ?_
          refine AOps.st 44 rfl rfl rfl (op_eql rfl rfl rfl ?_); intro c44 h44
          refine AOps.st 43 rfl rfl rfl (op_assign rfl rfl ?_)
          refine AOps.nil ?_
          refine go_code ?_
          rcases bool_split h44 with ⟨rfl, g44⟩ | ⟨rfl, g44⟩
          · refine c_cond_f rfl ?_
            refine c_region ?_
            refine AOps.st 45 rfl rfl rfl (op_eql rfl rfl rfl ?_); intro c45 h45
            refine AOps.st 43 rfl rfl rfl (op_assign rfl rfl ?_)
            refine AOps.nil ?_
            refine go_code ?_
            rcases bool_split h45 with ⟨rfl, g45⟩ | ⟨rfl, g45⟩
            · refine c_cond_f rfl ?_
              refine c_seq ?_
              refine c_region ?_
              refine AOps.st 57 rfl rfl rfl (op_eql rfl rfl rfl ?_); intro c57 h57
              refine AOps.st 56 rfl rfl rfl (op_assign rfl rfl ?_)
              refine AOps.nil ?_
              refine go_code ?_
              rcases bool_split h57 with ⟨rfl, g57⟩ | ⟨rfl, g57⟩
              · refine c_cond_f rfl ?_
                refine c_seq ?_
                refine c_region ?_
                refine AOps.st 67 rfl rfl rfl (op_eql rfl rfl rfl ?_); intro c67 h67
                refine AOps.st 66 rfl rfl rfl (op_assign rfl rfl ?_)
                refine AOps.nil ?_
                refine go_code ?_
                rcases bool_split h67 with ⟨rfl, g67⟩ | ⟨rfl, g67⟩
                · refine c_cond_f rfl ?_
                  refine c_seq ?_
                  refine c_region ?_
                  refine AOps.st 83 rfl rfl rfl (op_eql rfl rfl rfl ?_); intro c83 h83
                  refine AOps.st 82 rfl rfl rfl (op_assign rfl rfl ?_)
                  refine AOps.nil ?_
                  refine go_code ?_
                  rcases bool_split h83 with ⟨rfl, g83⟩ | ⟨rfl, g83⟩
                  · refine c_cond_f rfl ?_
                    refine c_seq ?_
                    refine c_region ?_
                    refine AOps.st 90 rfl rfl rfl (op_eql rfl rfl rfl ?_); intro c90 h90
                    refine AOps.st 89 rfl rfl rfl (op_assign rfl rfl ?_)
                    refine AOps.nil ?_
                    refine go_code ?_
                    rcases bool_split h90 with ⟨rfl, g90⟩ | ⟨rfl, g90⟩
                    · refine c_cond_f rfl ?_
                      refine c_seq ?_
                      refine c_region ?_
                      refine AOps.st 97 rfl rfl rfl (op_eql rfl rfl rfl ?_); intro c97 h97
                      refine AOps.st 96 rfl rfl rfl (op_assign rfl rfl ?_)
                      refine AOps.nil ?_
                      refine go_code ?_
                      rcases bool_split h97 with ⟨rfl, g97⟩ | ⟨rfl, g97⟩
                      · exact absurd rfl g97
                      · refine c_cond_t rfl ?_
                        refine c_seq ?_
                        refine c_region ?_
                        refine AOps.st 98 rfl rfl rfl (op_move rfl rfl ?_)
                        refine AOps.st 99 rfl rfl rfl (op_fieldAddr_c rfl tf_36_5 rfl rfl ?_)
                        refine AOps.st 100 rfl rfl rfl (op_load_c1 rfl ta_32 rfl rfl ?_)
                        refine AOps.st 101 rfl rfl rfl (op_move rfl rfl ?_)
                        refine AOps.st 102 rfl rfl rfl (op_callp (xs := [.tmp 98, .tmp 100, .tmp 101]) rfl rfl (HA) (by first | exact Les.refl _ | (repeat' (first | exact Les.refl _ | refine Les.cons ?_ ?_ | exact Le.refl _ | exact Le.own _ _ _ | exact Le.nil _ | refine Le.agg ?_))) ?_)
                        refine AOps.st 12 rfl rfl rfl (op_alloce (cs' := [_]) rfl tz_83 rfl rfl ?_); intro b12
                        first | (refine AOps.st0 rfl rfl (op_store (cs' := [_]) (i := 0) rfl ts_83 rfl rfl rfl rfl rfl (Nat.le_of_ble_eq_true rfl) rfl ?_)) | (refine AOps.st0 rfl rfl (op_store (cs' := [_]) (i := 1) rfl ts_83 rfl rfl rfl rfl rfl (Nat.le_of_ble_eq_true rfl) rfl ?_)) | (refine AOps.st0 rfl rfl (op_store (cs' := [_]) (i := 2) rfl ts_83 rfl rfl rfl rfl rfl (Nat.le_of_ble_eq_true rfl) rfl ?_)) | (refine AOps.st0 rfl rfl (op_store (cs' := [_]) (i := 3) rfl ts_83 rfl rfl rfl rfl rfl (Nat.le_of_ble_eq_true rfl) rfl ?_)) | (refine AOps.st0 rfl rfl (op_store (cs' := [_]) (i := 4) rfl ts_83 rfl rfl rfl rfl rfl (Nat.le_of_ble_eq_true rfl) rfl ?_)) | (refine AOps.st0 rfl rfl (op_store (cs' := [_]) (i := 5) rfl ts_83 rfl rfl rfl rfl rfl (Nat.le_of_ble_eq_true rfl) rfl ?_)) | (refine AOps.st0 rfl rfl (op_store (cs' := [_]) (i := 6) rfl ts_83 rfl rfl rfl rfl rfl (Nat.le_of_ble_eq_true rfl) rfl ?_)) | (refine AOps.st0 rfl rfl (op_store (cs' := [_]) (i := 7) rfl ts_83 rfl rfl rfl rfl rfl (Nat.le_of_ble_eq_true rfl) rfl ?_)) | (refine AOps.st0 rfl rfl (op_store (cs' := [_]) (i := 8) rfl ts_83 rfl rfl rfl rfl rfl (Nat.le_of_ble_eq_true rfl) rfl ?_)) | (refine AOps.st0 rfl rfl (op_store (cs' := [_]) (i := 9) rfl ts_83 rfl rfl rfl rfl rfl (Nat.le_of_ble_eq_true rfl) rfl ?_))
                        refine AOps.nil ?_
                        refine go_code ?_
                        refine c_seq ?_
                        refine c_fixl 12 0 rfl rfl ?_
                        refine c_region ?_
                        refine AOps.st 103 rfl rfl rfl (op_makeFunc (fs := []) (cs := [.tmp 4, .tmp 12]) rfl rfl rfl ?_)
                        refine AOps.st 104 rfl rfl rfl (op_callp (xs := [.tmp 103]) rfl rfl (HW) (by first | exact Les.refl _ | (repeat' (first | exact Les.refl _ | refine Les.cons ?_ ?_ | exact Le.refl _ | exact Le.own _ _ _ | exact Le.nil _ | refine Le.agg ?_))) ?_)
                        refine AOps.st 6 rfl rfl rfl (op_assign rfl rfl ?_)
                        refine AOps.nil ?_
                        refine go_code ?_
                        refine c_ret ?_
                        exact out_tmp rfl rfl (Le.refl _) (by first | exact MLe.none _ | exact MLe.refl _ | (repeat' (first | exact MLe.nil | exact MLe.refl _ | refine MLe.cons _ ?_ | refine MLe.drop _ ?_))) ⟨rfl, rfl⟩
                    · exact absurd g90 (by decide)
                  · exact absurd g83 (by decide)
                · exact absurd g67 (by decide)
              · exact absurd g57 (by decide)
            · first | exact absurd g44 (by decide) | exact absurd g45 (by decide)
          · first | exact absurd g44 (by decide) | exact absurd g45 (by decide)
        · exact absurd g37 (by decide)
      · exact absurd g29 (by decide)
    · exact absurd g21 (by decide)
  · first | exact absurd g16 (by decide) | simp_all
end Go.Proofs.Ytflkdojahfmbnaa
