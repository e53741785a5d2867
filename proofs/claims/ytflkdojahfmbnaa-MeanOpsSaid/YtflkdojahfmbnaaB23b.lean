/- The machine's functions at one text: of, put, a step of code, each. -/
import Derived.Test.YtflkdojahfmbnaaB23a
namespace Go.Proofs.Ytflkdojahfmbnaa
open Go.RowKit
set_option maxHeartbeats 4000000 in
set_option maxRecDepth 100000 in
theorem eqf_c (s : ByteArray) : PCall Try.prog 58 [.seq 6 [vlC 1 s], .seq 1 [[.val (.int .i64 1)]], .clo (.func 59) [] []] (.val (.bool true)) := by
  have HO := ofd_c s
  unfold vlC at *
  refine ACall.enter Try.func58 rfl (by kernel_rfl) rfl (Nat.le_of_ble_eq_true rfl) ?_
  refine c_start ?_
  refine c_seq ?_
  refine c_region ?_
  refine AOps.st 6 rfl rfl rfl (op_assign rfl rfl ?_)
  refine AOps.nil ?_
  refine go_code ?_
  refine c_seq ?_
  refine c_seq ?_
  refine c_region ?_
  refine AOps.st 10 rfl rfl rfl (op_move rfl rfl ?_)
  first | (refine AOps.st 11 rfl rfl rfl (op_len rfl tu_65 rfl (.seq _ _) (fun n11 => ?_))) | (refine AOps.st 11 rfl rfl rfl (op_len rfl tu_65 rfl (.own _ _ _) (fun n11 => ?_))) | (refine AOps.st 11 rfl rfl rfl (op_len rfl tu_65 rfl (.nil 0) (fun n11 => ?_))) | (refine AOps.st 11 rfl rfl rfl (op_len_arr rfl tu_65 rfl ?_))
  refine AOps.st 12 rfl rfl rfl (op_move rfl rfl ?_)
  first | (refine AOps.st 13 rfl rfl rfl (op_len rfl tu_107 rfl (.seq _ _) (fun n13 => ?_))) | (refine AOps.st 13 rfl rfl rfl (op_len rfl tu_107 rfl (.own _ _ _) (fun n13 => ?_))) | (refine AOps.st 13 rfl rfl rfl (op_len rfl tu_107 rfl (.nil 0) (fun n13 => ?_))) | (refine AOps.st 13 rfl rfl rfl (op_len_arr rfl tu_107 rfl ?_))
  refine AOps.st 14 rfl rfl rfl (op_neq rfl rfl rfl ?_); intro c14 h14
  refine AOps.nil ?_
  refine go_code ?_
  rcases bool_split h14 with ⟨rfl, g14⟩ | ⟨rfl, g14⟩
  · refine c_cond_f rfl ?_
    refine c_skip ?_
    refine go_code ?_
    refine c_seq ?_
    refine c_seq ?_
    refine c_region ?_
    refine AOps.st 15 rfl rfl rfl (op_move rfl rfl ?_)
    first | (refine AOps.st 16 rfl rfl rfl (op_len rfl tu_65 rfl (.seq _ _) (fun n16 => ?_))) | (refine AOps.st 16 rfl rfl rfl (op_len rfl tu_65 rfl (.own _ _ _) (fun n16 => ?_))) | (refine AOps.st 16 rfl rfl rfl (op_len rfl tu_65 rfl (.nil 0) (fun n16 => ?_))) | (refine AOps.st 16 rfl rfl rfl (op_len_arr rfl tu_65 rfl ?_))
    refine AOps.st 17 rfl rfl rfl (op_move rfl rfl ?_)
    refine AOps.nil ?_
    refine go_code ?_
    refine c_block ?_
    apply c_loopkm [0, 3, 4, 5, 6, 7, 8, 9, 10, 11, 12, 13, 14, 17, 18, 19, 20, 21, 22, 23, 24, 25, 26, 27, 28, 29, 30, 31] (σ := Nat) (fun zz => match zz with | i => [(17, .val (.int .i64 i))]) (fun zz => match zz with | i => i ≤ 1) (fun zz => match zz with | i => 1 - i) (0)
    · repeat' (first | exact Drops.nil | apply Drops.keep rfl | apply Drops.skip rfl)
    · exact Nat.zero_le _
    · exact (by repeat' (first | exact SLe.nil _ | refine SLe.cons rfl ?_ ?_ | exact Le.refl _ | exact Le.own _ _ _ | exact Le.nil _))
    rintro i hI
    try dsimp only [List.cons_append, List.nil_append] at hI ⊢
    refine c_seq ?_
    refine c_region ?_
    refine AOps.st 18 rfl rfl rfl (op_lss rfl rfl rfl ?_); intro c18 h18
    refine AOps.nil ?_
    refine go_code ?_
    refine c_seq ?_
    rcases bool_split h18 with ⟨rfl, g18⟩ | ⟨rfl, g18⟩
    · refine c_cond_f rfl ?_
      refine c_exit ?_
      refine x_code ?_
      refine x_lp ?_
      refine x_here ?_
      refine go_code ?_
      refine c_seq ?_
      refine c_region ?_
      refine AOps.st 6 rfl rfl rfl (op_assign rfl rfl ?_)
      refine AOps.nil ?_
      refine go_code ?_
      refine c_ret ?_
      exact out_tmp rfl rfl (Le.refl _) (by first | exact MLe.none _ | exact MLe.refl _ | (repeat' (first | exact MLe.nil | exact MLe.refl _ | refine MLe.cons _ ?_ | refine MLe.drop _ ?_))) ⟨rfl, rfl⟩
    · refine c_cond_t rfl ?_
      refine c_skip ?_
      refine go_code ?_
      refine c_seq ?_
      refine c_block ?_
      refine c_seq ?_
      obtain rfl : i = 0 := by simp at g18; omega
      refine c_region ?_
      refine AOps.st 19 rfl rfl rfl (op_move rfl rfl ?_)
      first | (refine AOps.st 20 rfl rfl rfl (op_index rfl te_65 rfl (.seq _ _) rfl rfl (by assumption) ?_)) | (refine AOps.st 20 rfl rfl rfl (op_index (i := 0) rfl te_65 rfl (.seq _ _) rfl rfl (by first | rfl | assumption) ?_)) | (refine AOps.st 20 rfl rfl rfl (op_index (i := 1) rfl te_65 rfl (.seq _ _) rfl rfl (by first | rfl | assumption) ?_)) | (refine AOps.st 20 rfl rfl rfl (op_index rfl te_65 rfl (.own _ _ _) rfl rfl (by assumption) ?_)) | (refine AOps.st 20 rfl rfl rfl (op_index (i := 0) rfl te_65 rfl (.own _ _ _) rfl rfl (by first | rfl | assumption) ?_)) | (refine AOps.st 20 rfl rfl rfl (op_index (i := 1) rfl te_65 rfl (.own _ _ _) rfl rfl (by first | rfl | assumption) ?_)) | (refine AOps.st 20 rfl rfl rfl (op_index_arr rfl te_65 rfl rfl rfl (by omega) ?_))
      first | (refine AOps.st 21 rfl rfl rfl (op_load_m (cs' := [_, _, _, _, _, _]) (i := 0) rfl ta_69 rfl rfl rfl rfl ?_)) | (refine AOps.st 21 rfl rfl rfl (op_load_m (cs' := [_, _, _, _, _, _]) (i := 1) rfl ta_69 rfl rfl rfl rfl ?_)) | (refine AOps.st 21 rfl rfl rfl (op_load_m (cs' := [_, _, _, _, _, _]) (i := 2) rfl ta_69 rfl rfl rfl rfl ?_)) | (refine AOps.st 21 rfl rfl rfl (op_load_m (cs' := [_, _, _, _, _, _]) (i := 3) rfl ta_69 rfl rfl rfl rfl ?_)) | (refine AOps.st 21 rfl rfl rfl (op_load_m (cs' := [_, _, _, _, _, _]) (i := 4) rfl ta_69 rfl rfl rfl rfl ?_)) | (refine AOps.st 21 rfl rfl rfl (op_load_m (cs' := [_, _, _, _, _, _]) (i := 5) rfl ta_69 rfl rfl rfl rfl ?_)) | (refine AOps.st 21 rfl rfl rfl (op_load_m (cs' := [_, _, _, _, _, _]) (i := 6) rfl ta_69 rfl rfl rfl rfl ?_)) | (refine AOps.st 21 rfl rfl rfl (op_load_m (cs' := [_, _, _, _, _, _]) (i := 7) rfl ta_69 rfl rfl rfl rfl ?_)) | (refine AOps.st 21 rfl rfl rfl (op_load_m (cs' := [_, _, _, _, _, _]) (i := 8) rfl ta_69 rfl rfl rfl rfl ?_)) | (refine AOps.st 21 rfl rfl rfl (op_load_m (cs' := [_, _, _, _, _, _]) (i := 9) rfl ta_69 rfl rfl rfl rfl ?_)) | (refine AOps.st 21 rfl rfl rfl (op_load_c (cs' := [_, _, _, _, _, _]) rfl ta_69 rfl rfl rfl ?_))
      refine AOps.st 8 rfl rfl rfl (op_alloce (cs' := [_, _, _, _, _, _]) rfl tz_69 rfl rfl ?_); intro b8
      refine AOps.st 7 rfl rfl rfl (op_assign rfl rfl ?_)
      first | (refine AOps.st0 rfl rfl (op_store (cs' := [_, _, _, _, _, _]) (i := 0) rfl ts_69 rfl rfl rfl rfl rfl (Nat.le_of_ble_eq_true rfl) rfl ?_)) | (refine AOps.st0 rfl rfl (op_store (cs' := [_, _, _, _, _, _]) (i := 1) rfl ts_69 rfl rfl rfl rfl rfl (Nat.le_of_ble_eq_true rfl) rfl ?_)) | (refine AOps.st0 rfl rfl (op_store (cs' := [_, _, _, _, _, _]) (i := 2) rfl ts_69 rfl rfl rfl rfl rfl (Nat.le_of_ble_eq_true rfl) rfl ?_)) | (refine AOps.st0 rfl rfl (op_store (cs' := [_, _, _, _, _, _]) (i := 3) rfl ts_69 rfl rfl rfl rfl rfl (Nat.le_of_ble_eq_true rfl) rfl ?_)) | (refine AOps.st0 rfl rfl (op_store (cs' := [_, _, _, _, _, _]) (i := 4) rfl ts_69 rfl rfl rfl rfl rfl (Nat.le_of_ble_eq_true rfl) rfl ?_)) | (refine AOps.st0 rfl rfl (op_store (cs' := [_, _, _, _, _, _]) (i := 5) rfl ts_69 rfl rfl rfl rfl rfl (Nat.le_of_ble_eq_true rfl) rfl ?_)) | (refine AOps.st0 rfl rfl (op_store (cs' := [_, _, _, _, _, _]) (i := 6) rfl ts_69 rfl rfl rfl rfl rfl (Nat.le_of_ble_eq_true rfl) rfl ?_)) | (refine AOps.st0 rfl rfl (op_store (cs' := [_, _, _, _, _, _]) (i := 7) rfl ts_69 rfl rfl rfl rfl rfl (Nat.le_of_ble_eq_true rfl) rfl ?_)) | (refine AOps.st0 rfl rfl (op_store (cs' := [_, _, _, _, _, _]) (i := 8) rfl ts_69 rfl rfl rfl rfl rfl (Nat.le_of_ble_eq_true rfl) rfl ?_)) | (refine AOps.st0 rfl rfl (op_store (cs' := [_, _, _, _, _, _]) (i := 9) rfl ts_69 rfl rfl rfl rfl rfl (Nat.le_of_ble_eq_true rfl) rfl ?_))
      refine AOps.nil ?_
      refine go_code ?_
      refine c_seq ?_
      refine c_region ?_
      refine AOps.st 22 rfl rfl rfl (op_move rfl rfl ?_)
      refine AOps.st 23 rfl rfl rfl (op_move rfl rfl ?_)
      first | (refine AOps.st 24 rfl rfl rfl (op_index rfl te_107 rfl (.seq _ _) rfl rfl (by assumption) ?_)) | (refine AOps.st 24 rfl rfl rfl (op_index (i := 0) rfl te_107 rfl (.seq _ _) rfl rfl (by first | rfl | assumption) ?_)) | (refine AOps.st 24 rfl rfl rfl (op_index (i := 1) rfl te_107 rfl (.seq _ _) rfl rfl (by first | rfl | assumption) ?_)) | (refine AOps.st 24 rfl rfl rfl (op_index rfl te_107 rfl (.own _ _ _) rfl rfl (by assumption) ?_)) | (refine AOps.st 24 rfl rfl rfl (op_index (i := 0) rfl te_107 rfl (.own _ _ _) rfl rfl (by first | rfl | assumption) ?_)) | (refine AOps.st 24 rfl rfl rfl (op_index (i := 1) rfl te_107 rfl (.own _ _ _) rfl rfl (by first | rfl | assumption) ?_)) | (refine AOps.st 24 rfl rfl rfl (op_index_arr rfl te_107 rfl rfl rfl (by omega) ?_))
      first | (refine AOps.st 25 rfl rfl rfl (op_load_m1 (i := 0) rfl ta_3 rfl rfl rfl ?_)) | (refine AOps.st 25 rfl rfl rfl (op_load_m1 (i := 1) rfl ta_3 rfl rfl rfl ?_)) | (refine AOps.st 25 rfl rfl rfl (op_load_m1 (i := 2) rfl ta_3 rfl rfl rfl ?_)) | (refine AOps.st 25 rfl rfl rfl (op_load_m1 (i := 3) rfl ta_3 rfl rfl rfl ?_)) | (refine AOps.st 25 rfl rfl rfl (op_load_m1 (i := 4) rfl ta_3 rfl rfl rfl ?_)) | (refine AOps.st 25 rfl rfl rfl (op_load_m1 (i := 5) rfl ta_3 rfl rfl rfl ?_)) | (refine AOps.st 25 rfl rfl rfl (op_load_m1 (i := 6) rfl ta_3 rfl rfl rfl ?_)) | (refine AOps.st 25 rfl rfl rfl (op_load_m1 (i := 7) rfl ta_3 rfl rfl rfl ?_)) | (refine AOps.st 25 rfl rfl rfl (op_load_m1 (i := 8) rfl ta_3 rfl rfl rfl ?_)) | (refine AOps.st 25 rfl rfl rfl (op_load_m1 (i := 9) rfl ta_3 rfl rfl rfl ?_)) | (refine AOps.st 25 rfl rfl rfl (op_load_c1 rfl ta_3 rfl rfl ?_))
      refine AOps.st 9 rfl rfl rfl (op_assign rfl rfl ?_)
      refine AOps.nil ?_
      refine go_code ?_
      refine c_seq ?_
      refine c_region ?_
      refine AOps.st 26 rfl rfl rfl (op_move rfl rfl ?_)
      first | (refine AOps.st 27 rfl rfl rfl (op_load_m (cs' := [_, _, _, _, _, _]) (i := 0) rfl ta_69 rfl rfl rfl rfl ?_)) | (refine AOps.st 27 rfl rfl rfl (op_load_m (cs' := [_, _, _, _, _, _]) (i := 1) rfl ta_69 rfl rfl rfl rfl ?_)) | (refine AOps.st 27 rfl rfl rfl (op_load_m (cs' := [_, _, _, _, _, _]) (i := 2) rfl ta_69 rfl rfl rfl rfl ?_)) | (refine AOps.st 27 rfl rfl rfl (op_load_m (cs' := [_, _, _, _, _, _]) (i := 3) rfl ta_69 rfl rfl rfl rfl ?_)) | (refine AOps.st 27 rfl rfl rfl (op_load_m (cs' := [_, _, _, _, _, _]) (i := 4) rfl ta_69 rfl rfl rfl rfl ?_)) | (refine AOps.st 27 rfl rfl rfl (op_load_m (cs' := [_, _, _, _, _, _]) (i := 5) rfl ta_69 rfl rfl rfl rfl ?_)) | (refine AOps.st 27 rfl rfl rfl (op_load_m (cs' := [_, _, _, _, _, _]) (i := 6) rfl ta_69 rfl rfl rfl rfl ?_)) | (refine AOps.st 27 rfl rfl rfl (op_load_m (cs' := [_, _, _, _, _, _]) (i := 7) rfl ta_69 rfl rfl rfl rfl ?_)) | (refine AOps.st 27 rfl rfl rfl (op_load_m (cs' := [_, _, _, _, _, _]) (i := 8) rfl ta_69 rfl rfl rfl rfl ?_)) | (refine AOps.st 27 rfl rfl rfl (op_load_m (cs' := [_, _, _, _, _, _]) (i := 9) rfl ta_69 rfl rfl rfl rfl ?_)) | (refine AOps.st 27 rfl rfl rfl (op_load_c (cs' := [_, _, _, _, _, _]) rfl ta_69 rfl rfl rfl ?_))
      refine AOps.st 28 rfl rfl rfl (op_move rfl rfl ?_)
      refine AOps.st 29 rfl rfl rfl (op_callvpp (xs := [.tmp 27, .tmp 28]) rfl rfl rfl (HO) (by first | exact Les.refl _ | (repeat' (first | exact Les.refl _ | refine Les.cons ?_ ?_ | exact Le.refl _ | exact Le.own _ _ _ | exact Le.nil _ | refine Le.agg ?_))) ?_)
      refine AOps.st 30 rfl rfl rfl (op_notc rfl rfl ?_); intro c30 h30
      try replace h30 := nott h30 h29
      refine AOps.nil ?_
      refine go_code ?_
      rcases bool_split h30 with ⟨rfl, g30⟩ | ⟨rfl, g30⟩
      · refine c_cond_f rfl ?_
        refine c_skip ?_
        refine go_blk ?_
        refine go_code ?_
        refine c_region ?_
        first | (refine AOps.st 31 rfl rfl rfl (op_add rfl rfl rfl (IntWalk.i64_in _ (by omega)) ?_)) | (refine AOps.st 31 rfl rfl rfl (op_add rfl rfl rfl rfl ?_))
        refine AOps.st 17 rfl rfl rfl (op_move rfl rfl ?_)
        refine AOps.nil ?_
        refine go_lp ?_
        exact ⟨1, by decide, by decide, (by repeat' (first | exact SLe.nil _ | refine SLe.cons rfl ?_ ?_ | exact Le.refl _ | exact Le.own _ _ _ | exact Le.nil _)), (by first | exact MLe.none _ | exact MLe.refl _ | (repeat' (first | exact MLe.nil | exact MLe.refl _ | refine MLe.cons _ ?_ | refine MLe.drop _ ?_)))⟩
      · first | exact absurd g30 (by decide) | simp_all
  · exact absurd rfl g14
set_option maxHeartbeats 4000000 in
set_option maxRecDepth 100000 in
theorem of_c (s : ByteArray) : PCall Try.prog 54 [.seq 6 [vlC 1 s], .seq 1 [[.val (.int .i64 1)]]] (.val (.bool true)) := by
  have HO := eqf_c s
  refine ACall.enter Try.func54 rfl (by kernel_rfl) rfl (Nat.le_of_ble_eq_true rfl) ?_
  refine c_start ?_
  refine c_seq ?_
  refine c_region ?_
  refine AOps.st 4 rfl rfl rfl (op_assign rfl rfl ?_)
  refine AOps.nil ?_
  refine go_code ?_
  refine c_seq ?_
  refine c_region ?_
  refine AOps.st 5 rfl rfl rfl (op_move rfl rfl ?_)
  refine AOps.st 6 rfl rfl rfl (op_move rfl rfl ?_)
  refine AOps.st 7 rfl rfl rfl (op_callp (xs := [.tmp 5, .tmp 6, .func 59]) rfl rfl (HO) (by first | exact Les.refl _ | (repeat' (first | exact Les.refl _ | refine Les.cons ?_ ?_ | exact Le.refl _ | exact Le.own _ _ _ | exact Le.nil _ | refine Le.agg ?_))) ?_)
  refine AOps.st 4 rfl rfl rfl (op_assign rfl rfl ?_)
  refine AOps.nil ?_
  refine go_code ?_
  refine c_ret ?_
  exact out_tmp rfl rfl (Le.refl _) (by first | exact MLe.none _ | exact MLe.refl _ | (repeat' (first | exact MLe.nil | exact MLe.refl _ | refine MLe.cons _ ?_ | refine MLe.drop _ ?_))) ⟨rfl, rfl⟩
set_option maxHeartbeats 4000000 in
set_option maxRecDepth 100000 in
theorem clone_c : PCall Try.prog 19 [.val (.slice none 0 0)] (.seq 1 []) := by
  refine ACall.enter Try.func19 rfl (by kernel_rfl) rfl (Nat.le_of_ble_eq_true rfl) ?_
  refine c_start ?_
  refine c_seq ?_
  refine c_region ?_
  refine AOps.st 2 rfl rfl rfl (op_assign rfl rfl ?_)
  refine AOps.nil ?_
  refine go_code ?_
  refine c_seq ?_
  refine c_seq ?_
  refine c_region ?_
  refine AOps.st 3 rfl rfl rfl (op_move rfl rfl ?_)
  first | (refine AOps.st 4 rfl rfl rfl (op_isnil rfl tu_37 rfl (.seq _ _) ?_)) | (refine AOps.st 4 rfl rfl rfl (op_isnil rfl tu_37 rfl (.own _ _ _) ?_)) | (refine AOps.st 4 rfl rfl rfl (op_isnil rfl tu_37 rfl (.nil 0) ?_))
  intro c4 h4
  refine AOps.nil ?_
  refine go_code ?_
  rcases c4 with _ | _
  · refine c_cond_f rfl ?_
    refine c_skip ?_
    refine go_code ?_
    refine c_seq ?_
    refine c_region ?_
    refine AOps.st 5 rfl rfl rfl (op_buildSlice_own (xs := []) el_37 rfl rfl rfl rfl rfl rfl (Nat.le_of_ble_eq_true rfl) ?_); intro u5
    refine AOps.st 6 rfl rfl rfl (op_move rfl rfl ?_)
    first | (refine AOps.st 7 rfl rfl rfl (op_append (i := 0) el_37 rfl rfl rfl rfl (.seq _ _) (by first | (simp; done) | (simp; omega) | omega) ?_)) | (refine AOps.st 7 rfl rfl rfl (op_append (i := 1) el_37 rfl rfl rfl rfl (.seq _ _) (by first | (simp; done) | (simp; omega) | omega) ?_)) | (refine AOps.st 7 rfl rfl rfl (op_append (i := 2) el_37 rfl rfl rfl rfl (.seq _ _) (by first | (simp; done) | (simp; omega) | omega) ?_)) | (refine AOps.st 7 rfl rfl rfl (op_append (i := 3) el_37 rfl rfl rfl rfl (.seq _ _) (by first | (simp; done) | (simp; omega) | omega) ?_)) | (refine AOps.st 7 rfl rfl rfl (op_append (i := 4) el_37 rfl rfl rfl rfl (.seq _ _) (by first | (simp; done) | (simp; omega) | omega) ?_)) | (refine AOps.st 7 rfl rfl rfl (op_append (i := 5) el_37 rfl rfl rfl rfl (.seq _ _) (by first | (simp; done) | (simp; omega) | omega) ?_)) | (refine AOps.st 7 rfl rfl rfl (op_append (i := 6) el_37 rfl rfl rfl rfl (.seq _ _) (by first | (simp; done) | (simp; omega) | omega) ?_)) | (refine AOps.st 7 rfl rfl rfl (op_append (i := 7) el_37 rfl rfl rfl rfl (.seq _ _) (by first | (simp; done) | (simp; omega) | omega) ?_)) | (refine AOps.st 7 rfl rfl rfl (op_append (i := 8) el_37 rfl rfl rfl rfl (.seq _ _) (by first | (simp; done) | (simp; omega) | omega) ?_)) | (refine AOps.st 7 rfl rfl rfl (op_append (i := 0) el_37 rfl rfl rfl rfl (.own _ _ _) (by first | (simp; done) | (simp; omega) | omega) ?_)) | (refine AOps.st 7 rfl rfl rfl (op_append (i := 1) el_37 rfl rfl rfl rfl (.own _ _ _) (by first | (simp; done) | (simp; omega) | omega) ?_)) | (refine AOps.st 7 rfl rfl rfl (op_append (i := 2) el_37 rfl rfl rfl rfl (.own _ _ _) (by first | (simp; done) | (simp; omega) | omega) ?_)) | (refine AOps.st 7 rfl rfl rfl (op_append (i := 3) el_37 rfl rfl rfl rfl (.own _ _ _) (by first | (simp; done) | (simp; omega) | omega) ?_)) | (refine AOps.st 7 rfl rfl rfl (op_append (i := 4) el_37 rfl rfl rfl rfl (.own _ _ _) (by first | (simp; done) | (simp; omega) | omega) ?_)) | (refine AOps.st 7 rfl rfl rfl (op_append (i := 5) el_37 rfl rfl rfl rfl (.own _ _ _) (by first | (simp; done) | (simp; omega) | omega) ?_)) | (refine AOps.st 7 rfl rfl rfl (op_append (i := 6) el_37 rfl rfl rfl rfl (.own _ _ _) (by first | (simp; done) | (simp; omega) | omega) ?_)) | (refine AOps.st 7 rfl rfl rfl (op_append (i := 7) el_37 rfl rfl rfl rfl (.own _ _ _) (by first | (simp; done) | (simp; omega) | omega) ?_)) | (refine AOps.st 7 rfl rfl rfl (op_append (i := 8) el_37 rfl rfl rfl rfl (.own _ _ _) (by first | (simp; done) | (simp; omega) | omega) ?_)) | (refine AOps.st 7 rfl rfl rfl (op_append (i := 0) el_37 rfl rfl rfl rfl (.nil _) (by first | (simp; done) | (simp; omega) | omega) ?_)) | (refine AOps.st 7 rfl rfl rfl (op_append (i := 1) el_37 rfl rfl rfl rfl (.nil _) (by first | (simp; done) | (simp; omega) | omega) ?_)) | (refine AOps.st 7 rfl rfl rfl (op_append (i := 2) el_37 rfl rfl rfl rfl (.nil _) (by first | (simp; done) | (simp; omega) | omega) ?_)) | (refine AOps.st 7 rfl rfl rfl (op_append (i := 3) el_37 rfl rfl rfl rfl (.nil _) (by first | (simp; done) | (simp; omega) | omega) ?_)) | (refine AOps.st 7 rfl rfl rfl (op_append (i := 4) el_37 rfl rfl rfl rfl (.nil _) (by first | (simp; done) | (simp; omega) | omega) ?_)) | (refine AOps.st 7 rfl rfl rfl (op_append (i := 5) el_37 rfl rfl rfl rfl (.nil _) (by first | (simp; done) | (simp; omega) | omega) ?_)) | (refine AOps.st 7 rfl rfl rfl (op_append (i := 6) el_37 rfl rfl rfl rfl (.nil _) (by first | (simp; done) | (simp; omega) | omega) ?_)) | (refine AOps.st 7 rfl rfl rfl (op_append (i := 7) el_37 rfl rfl rfl rfl (.nil _) (by first | (simp; done) | (simp; omega) | omega) ?_)) | (refine AOps.st 7 rfl rfl rfl (op_append (i := 8) el_37 rfl rfl rfl rfl (.nil _) (by first | (simp; done) | (simp; omega) | omega) ?_)) | (refine AOps.st 7 rfl rfl rfl (op_append_nil el_37 rfl rfl rfl (.seq _ _) (by first | (simp; done) | (simp; omega) | omega) ?_)) | (refine AOps.st 7 rfl rfl rfl (op_append_nil el_37 rfl rfl rfl (.own _ _ _) (by first | (simp; done) | (simp; omega) | omega) ?_)) | (refine AOps.st 7 rfl rfl rfl (op_append_nil el_37 rfl rfl rfl (.nil _) (by first | (simp; done) | (simp; omega) | omega) ?_))
    intro u7
    refine AOps.st 2 rfl rfl rfl (op_assign rfl rfl ?_)
    refine AOps.nil ?_
    refine go_code ?_
    refine c_ret ?_
    exact out_tmp rfl rfl (Le.own _ _ _) (by first | exact MLe.none _ | exact MLe.refl _ | (repeat' (first | exact MLe.nil | exact MLe.refl _ | refine MLe.cons _ ?_ | refine MLe.drop _ ?_))) ⟨rfl, rfl⟩
  · refine c_cond_t rfl ?_
    refine c_seq ?_
    refine c_region ?_
    refine AOps.st 2 rfl rfl rfl (op_assign rfl rfl ?_)
    refine AOps.nil ?_
    refine go_code ?_
    refine c_ret ?_
    exact out_tmp rfl rfl (Le.nil _) (by first | exact MLe.none _ | exact MLe.refl _ | (repeat' (first | exact MLe.nil | exact MLe.refl _ | refine MLe.cons _ ?_ | refine MLe.drop _ ?_))) ⟨rfl, rfl⟩
set_option maxHeartbeats 4000000 in
set_option maxRecDepth 100000 in
theorem wrap1_c (b : Nat) (o i u u' e v : AV) (fuel steps steps' nest : Int) (g : FuncId) (fs cs : List AV) (h1 : steps < fuel) (h2 : nest < 100) (h3 : fuel ≤ 100) (h4 : 0 ≤ steps) (h5 : 0 ≤ nest) (vc : List AV) (hv : v = .agg vc) (hvl : vc.length = 6)
    (H : MCall Try.prog g (fs ++ [.ptr b 0, e] ++ cs) (.loc b (mcC o i u fuel (steps + 1) (nest + 1))) v (.loc b (mcC o i u' fuel steps' (nest + 1)))) :
    MCall Try.prog 44 [.ptr b 0, e, .cptr [.clo (.func g) fs cs]] (.loc b (mcC o i u fuel steps nest)) v (.loc b (mcC o i u' fuel steps' nest)) := by
  have HS := step_c b o i u fuel steps nest h1 (by omega) h3 h4
  subst hv
  match vc, hvl with
  | [v1, v2, v3, v4, v5, v6], _ =>
  unfold mcC at *
  refine ACall.enter Try.func44 rfl (by kernel_rfl) rfl (Nat.le_of_ble_eq_true rfl) ?_
  refine c_start ?_
  refine c_seq ?_
  refine c_region ?_
  refine AOps.st 5 rfl rfl rfl (op_alloce (cs' := [_, _, _, _, _, _]) rfl tz_69 rfl rfl ?_); intro b5
  refine AOps.nil ?_
  refine go_code ?_
  refine c_seq ?_
  refine c_region ?_
  refine AOps.st 7 rfl rfl rfl (op_move rfl rfl ?_)
  refine AOps.st 8 rfl rfl rfl (op_mcall (xs := [.tmp 7]) (i := 1) rfl rfl rfl (HS) (by first | exact Les.refl _ | (repeat' (first | exact Les.refl _ | refine Les.cons ?_ ?_ | exact Le.refl _ | exact Le.own _ _ _ | exact Le.nil _ | refine Le.agg ?_))) ?_)
  refine AOps.nil ?_
  refine go_code ?_
  refine c_seq ?_
  refine c_region ?_
  refine AOps.st 9 rfl rfl rfl (op_move rfl rfl ?_)
  first | (refine AOps.st 10 rfl rfl rfl (op_nilCheck_m rfl rfl ?_)) | (refine AOps.st 10 rfl rfl rfl (op_nilCheck_c rfl rfl ?_)) | (refine AOps.st 10 rfl rfl rfl (op_nilCheck_f rfl rfl ?_))
  first | (refine AOps.st 11 rfl rfl rfl (op_fieldAddr_m rfl tf_57_5 rfl ?_)) | (refine AOps.st 11 rfl rfl rfl (op_fieldAddr_c rfl tf_57_5 rfl rfl ?_))
  first | (refine AOps.st 12 rfl rfl rfl (op_load_m1 (i := 0) rfl ta_3 rfl rfl rfl ?_)) | (refine AOps.st 12 rfl rfl rfl (op_load_m1 (i := 1) rfl ta_3 rfl rfl rfl ?_)) | (refine AOps.st 12 rfl rfl rfl (op_load_m1 (i := 2) rfl ta_3 rfl rfl rfl ?_)) | (refine AOps.st 12 rfl rfl rfl (op_load_m1 (i := 3) rfl ta_3 rfl rfl rfl ?_)) | (refine AOps.st 12 rfl rfl rfl (op_load_m1 (i := 4) rfl ta_3 rfl rfl rfl ?_)) | (refine AOps.st 12 rfl rfl rfl (op_load_m1 (i := 5) rfl ta_3 rfl rfl rfl ?_)) | (refine AOps.st 12 rfl rfl rfl (op_load_m1 (i := 6) rfl ta_3 rfl rfl rfl ?_)) | (refine AOps.st 12 rfl rfl rfl (op_load_m1 (i := 7) rfl ta_3 rfl rfl rfl ?_)) | (refine AOps.st 12 rfl rfl rfl (op_load_m1 (i := 8) rfl ta_3 rfl rfl rfl ?_)) | (refine AOps.st 12 rfl rfl rfl (op_load_m1 (i := 9) rfl ta_3 rfl rfl rfl ?_)) | (refine AOps.st 12 rfl rfl rfl (op_load_c1 rfl ta_3 rfl rfl ?_))
  first | (refine AOps.st 13 rfl rfl rfl (op_add rfl rfl rfl (IntWalk.i64_in _ (by omega)) ?_)) | (refine AOps.st 13 rfl rfl rfl (op_add rfl rfl rfl rfl ?_))
  first | (refine AOps.st 14 rfl rfl rfl (op_nilCheck_m rfl rfl ?_)) | (refine AOps.st 14 rfl rfl rfl (op_nilCheck_c rfl rfl ?_)) | (refine AOps.st 14 rfl rfl rfl (op_nilCheck_f rfl rfl ?_))
  first | (refine AOps.st 15 rfl rfl rfl (op_fieldAddr_m rfl tf_57_5 rfl ?_)) | (refine AOps.st 15 rfl rfl rfl (op_fieldAddr_c rfl tf_57_5 rfl rfl ?_))
  first | (refine AOps.st0 rfl rfl (op_store (i := 0) rfl ts_3 rfl rfl rfl rfl rfl (Nat.le_of_ble_eq_true rfl) rfl ?_)) | (refine AOps.st0 rfl rfl (op_store (i := 1) rfl ts_3 rfl rfl rfl rfl rfl (Nat.le_of_ble_eq_true rfl) rfl ?_)) | (refine AOps.st0 rfl rfl (op_store (i := 2) rfl ts_3 rfl rfl rfl rfl rfl (Nat.le_of_ble_eq_true rfl) rfl ?_)) | (refine AOps.st0 rfl rfl (op_store (i := 3) rfl ts_3 rfl rfl rfl rfl rfl (Nat.le_of_ble_eq_true rfl) rfl ?_)) | (refine AOps.st0 rfl rfl (op_store (i := 4) rfl ts_3 rfl rfl rfl rfl rfl (Nat.le_of_ble_eq_true rfl) rfl ?_)) | (refine AOps.st0 rfl rfl (op_store (i := 5) rfl ts_3 rfl rfl rfl rfl rfl (Nat.le_of_ble_eq_true rfl) rfl ?_)) | (refine AOps.st0 rfl rfl (op_store (i := 6) rfl ts_3 rfl rfl rfl rfl rfl (Nat.le_of_ble_eq_true rfl) rfl ?_)) | (refine AOps.st0 rfl rfl (op_store (i := 7) rfl ts_3 rfl rfl rfl rfl rfl (Nat.le_of_ble_eq_true rfl) rfl ?_)) | (refine AOps.st0 rfl rfl (op_store (i := 8) rfl ts_3 rfl rfl rfl rfl rfl (Nat.le_of_ble_eq_true rfl) rfl ?_)) | (refine AOps.st0 rfl rfl (op_store (i := 9) rfl ts_3 rfl rfl rfl rfl rfl (Nat.le_of_ble_eq_true rfl) rfl ?_))
  refine AOps.nil ?_
  refine go_code ?_
  refine c_seq ?_
  refine c_region ?_
  first | (refine AOps.st 16 rfl rfl rfl (op_load_m1 (i := 0) rfl ta_64 rfl rfl rfl ?_)) | (refine AOps.st 16 rfl rfl rfl (op_load_m1 (i := 1) rfl ta_64 rfl rfl rfl ?_)) | (refine AOps.st 16 rfl rfl rfl (op_load_m1 (i := 2) rfl ta_64 rfl rfl rfl ?_)) | (refine AOps.st 16 rfl rfl rfl (op_load_m1 (i := 3) rfl ta_64 rfl rfl rfl ?_)) | (refine AOps.st 16 rfl rfl rfl (op_load_m1 (i := 4) rfl ta_64 rfl rfl rfl ?_)) | (refine AOps.st 16 rfl rfl rfl (op_load_m1 (i := 5) rfl ta_64 rfl rfl rfl ?_)) | (refine AOps.st 16 rfl rfl rfl (op_load_m1 (i := 6) rfl ta_64 rfl rfl rfl ?_)) | (refine AOps.st 16 rfl rfl rfl (op_load_m1 (i := 7) rfl ta_64 rfl rfl rfl ?_)) | (refine AOps.st 16 rfl rfl rfl (op_load_m1 (i := 8) rfl ta_64 rfl rfl rfl ?_)) | (refine AOps.st 16 rfl rfl rfl (op_load_m1 (i := 9) rfl ta_64 rfl rfl rfl ?_)) | (refine AOps.st 16 rfl rfl rfl (op_load_c1 rfl ta_64 rfl rfl ?_))
  refine AOps.st 17 rfl rfl rfl (op_move rfl rfl ?_)
  refine AOps.st 18 rfl rfl rfl (op_move rfl rfl ?_)
  refine AOps.st 19 rfl rfl rfl (op_callvat [1] (xs := [.tmp 17, .tmp 18])  rfl rfl rfl rfl H (by first | exact Les.refl _ | (repeat' (first | exact Les.refl _ | refine Les.cons ?_ ?_ | exact Le.refl _ | exact Le.own _ _ _ | exact Le.nil _ | refine Le.agg ?_))) ?_)
  rintro v9 M9 ⟨rfl, rfl⟩
  refine AOps.st 6 rfl rfl rfl (op_alloce (cs' := [_, _, _, _, _, _]) rfl tz_69 rfl rfl ?_); intro b6
  first | (refine AOps.st0 rfl rfl (op_store (cs' := [_, _, _, _, _, _]) (i := 0) rfl ts_69 rfl rfl rfl rfl rfl (Nat.le_of_ble_eq_true rfl) rfl ?_)) | (refine AOps.st0 rfl rfl (op_store (cs' := [_, _, _, _, _, _]) (i := 1) rfl ts_69 rfl rfl rfl rfl rfl (Nat.le_of_ble_eq_true rfl) rfl ?_)) | (refine AOps.st0 rfl rfl (op_store (cs' := [_, _, _, _, _, _]) (i := 2) rfl ts_69 rfl rfl rfl rfl rfl (Nat.le_of_ble_eq_true rfl) rfl ?_)) | (refine AOps.st0 rfl rfl (op_store (cs' := [_, _, _, _, _, _]) (i := 3) rfl ts_69 rfl rfl rfl rfl rfl (Nat.le_of_ble_eq_true rfl) rfl ?_)) | (refine AOps.st0 rfl rfl (op_store (cs' := [_, _, _, _, _, _]) (i := 4) rfl ts_69 rfl rfl rfl rfl rfl (Nat.le_of_ble_eq_true rfl) rfl ?_)) | (refine AOps.st0 rfl rfl (op_store (cs' := [_, _, _, _, _, _]) (i := 5) rfl ts_69 rfl rfl rfl rfl rfl (Nat.le_of_ble_eq_true rfl) rfl ?_)) | (refine AOps.st0 rfl rfl (op_store (cs' := [_, _, _, _, _, _]) (i := 6) rfl ts_69 rfl rfl rfl rfl rfl (Nat.le_of_ble_eq_true rfl) rfl ?_)) | (refine AOps.st0 rfl rfl (op_store (cs' := [_, _, _, _, _, _]) (i := 7) rfl ts_69 rfl rfl rfl rfl rfl (Nat.le_of_ble_eq_true rfl) rfl ?_)) | (refine AOps.st0 rfl rfl (op_store (cs' := [_, _, _, _, _, _]) (i := 8) rfl ts_69 rfl rfl rfl rfl rfl (Nat.le_of_ble_eq_true rfl) rfl ?_)) | (refine AOps.st0 rfl rfl (op_store (cs' := [_, _, _, _, _, _]) (i := 9) rfl ts_69 rfl rfl rfl rfl rfl (Nat.le_of_ble_eq_true rfl) rfl ?_))
  refine AOps.nil ?_
  refine go_code ?_
  refine c_seq ?_
  refine c_region ?_
  refine AOps.st 20 rfl rfl rfl (op_move rfl rfl ?_)
  first | (refine AOps.st 21 rfl rfl rfl (op_nilCheck_m rfl rfl ?_)) | (refine AOps.st 21 rfl rfl rfl (op_nilCheck_c rfl rfl ?_)) | (refine AOps.st 21 rfl rfl rfl (op_nilCheck_f rfl rfl ?_))
  first | (refine AOps.st 22 rfl rfl rfl (op_fieldAddr_m rfl tf_57_5 rfl ?_)) | (refine AOps.st 22 rfl rfl rfl (op_fieldAddr_c rfl tf_57_5 rfl rfl ?_))
  first | (refine AOps.st 23 rfl rfl rfl (op_load_m1 (i := 0) rfl ta_3 rfl rfl rfl ?_)) | (refine AOps.st 23 rfl rfl rfl (op_load_m1 (i := 1) rfl ta_3 rfl rfl rfl ?_)) | (refine AOps.st 23 rfl rfl rfl (op_load_m1 (i := 2) rfl ta_3 rfl rfl rfl ?_)) | (refine AOps.st 23 rfl rfl rfl (op_load_m1 (i := 3) rfl ta_3 rfl rfl rfl ?_)) | (refine AOps.st 23 rfl rfl rfl (op_load_m1 (i := 4) rfl ta_3 rfl rfl rfl ?_)) | (refine AOps.st 23 rfl rfl rfl (op_load_m1 (i := 5) rfl ta_3 rfl rfl rfl ?_)) | (refine AOps.st 23 rfl rfl rfl (op_load_m1 (i := 6) rfl ta_3 rfl rfl rfl ?_)) | (refine AOps.st 23 rfl rfl rfl (op_load_m1 (i := 7) rfl ta_3 rfl rfl rfl ?_)) | (refine AOps.st 23 rfl rfl rfl (op_load_m1 (i := 8) rfl ta_3 rfl rfl rfl ?_)) | (refine AOps.st 23 rfl rfl rfl (op_load_m1 (i := 9) rfl ta_3 rfl rfl rfl ?_)) | (refine AOps.st 23 rfl rfl rfl (op_load_c1 rfl ta_3 rfl rfl ?_))
  first | (refine AOps.st 24 rfl rfl rfl (op_sub rfl rfl rfl (IntWalk.i64_in _ (by omega)) ?_)) | (refine AOps.st 24 rfl rfl rfl (op_sub rfl rfl rfl rfl ?_))
  first | (refine AOps.st 25 rfl rfl rfl (op_nilCheck_m rfl rfl ?_)) | (refine AOps.st 25 rfl rfl rfl (op_nilCheck_c rfl rfl ?_)) | (refine AOps.st 25 rfl rfl rfl (op_nilCheck_f rfl rfl ?_))
  first | (refine AOps.st 26 rfl rfl rfl (op_fieldAddr_m rfl tf_57_5 rfl ?_)) | (refine AOps.st 26 rfl rfl rfl (op_fieldAddr_c rfl tf_57_5 rfl rfl ?_))
  first | (refine AOps.st0 rfl rfl (op_store (i := 0) rfl ts_3 rfl rfl rfl rfl rfl (Nat.le_of_ble_eq_true rfl) rfl ?_)) | (refine AOps.st0 rfl rfl (op_store (i := 1) rfl ts_3 rfl rfl rfl rfl rfl (Nat.le_of_ble_eq_true rfl) rfl ?_)) | (refine AOps.st0 rfl rfl (op_store (i := 2) rfl ts_3 rfl rfl rfl rfl rfl (Nat.le_of_ble_eq_true rfl) rfl ?_)) | (refine AOps.st0 rfl rfl (op_store (i := 3) rfl ts_3 rfl rfl rfl rfl rfl (Nat.le_of_ble_eq_true rfl) rfl ?_)) | (refine AOps.st0 rfl rfl (op_store (i := 4) rfl ts_3 rfl rfl rfl rfl rfl (Nat.le_of_ble_eq_true rfl) rfl ?_)) | (refine AOps.st0 rfl rfl (op_store (i := 5) rfl ts_3 rfl rfl rfl rfl rfl (Nat.le_of_ble_eq_true rfl) rfl ?_)) | (refine AOps.st0 rfl rfl (op_store (i := 6) rfl ts_3 rfl rfl rfl rfl rfl (Nat.le_of_ble_eq_true rfl) rfl ?_)) | (refine AOps.st0 rfl rfl (op_store (i := 7) rfl ts_3 rfl rfl rfl rfl rfl (Nat.le_of_ble_eq_true rfl) rfl ?_)) | (refine AOps.st0 rfl rfl (op_store (i := 8) rfl ts_3 rfl rfl rfl rfl rfl (Nat.le_of_ble_eq_true rfl) rfl ?_)) | (refine AOps.st0 rfl rfl (op_store (i := 9) rfl ts_3 rfl rfl rfl rfl rfl (Nat.le_of_ble_eq_true rfl) rfl ?_))
  refine AOps.nil ?_
  refine go_code ?_
  refine c_seq ?_
  have e9 : nest + 1 - 1 = nest := by omega
  rw [e9]
  refine c_region ?_
  first | (refine AOps.st 27 rfl rfl rfl (op_load_m (cs' := [_, _, _, _, _, _]) (i := 0) rfl ta_69 rfl rfl rfl rfl ?_)) | (refine AOps.st 27 rfl rfl rfl (op_load_m (cs' := [_, _, _, _, _, _]) (i := 1) rfl ta_69 rfl rfl rfl rfl ?_)) | (refine AOps.st 27 rfl rfl rfl (op_load_m (cs' := [_, _, _, _, _, _]) (i := 2) rfl ta_69 rfl rfl rfl rfl ?_)) | (refine AOps.st 27 rfl rfl rfl (op_load_m (cs' := [_, _, _, _, _, _]) (i := 3) rfl ta_69 rfl rfl rfl rfl ?_)) | (refine AOps.st 27 rfl rfl rfl (op_load_m (cs' := [_, _, _, _, _, _]) (i := 4) rfl ta_69 rfl rfl rfl rfl ?_)) | (refine AOps.st 27 rfl rfl rfl (op_load_m (cs' := [_, _, _, _, _, _]) (i := 5) rfl ta_69 rfl rfl rfl rfl ?_)) | (refine AOps.st 27 rfl rfl rfl (op_load_m (cs' := [_, _, _, _, _, _]) (i := 6) rfl ta_69 rfl rfl rfl rfl ?_)) | (refine AOps.st 27 rfl rfl rfl (op_load_m (cs' := [_, _, _, _, _, _]) (i := 7) rfl ta_69 rfl rfl rfl rfl ?_)) | (refine AOps.st 27 rfl rfl rfl (op_load_m (cs' := [_, _, _, _, _, _]) (i := 8) rfl ta_69 rfl rfl rfl rfl ?_)) | (refine AOps.st 27 rfl rfl rfl (op_load_m (cs' := [_, _, _, _, _, _]) (i := 9) rfl ta_69 rfl rfl rfl rfl ?_)) | (refine AOps.st 27 rfl rfl rfl (op_load_c (cs' := [_, _, _, _, _, _]) rfl ta_69 rfl rfl rfl ?_))
  first | (refine AOps.st0 rfl rfl (op_store (cs' := [_, _, _, _, _, _]) (i := 0) rfl ts_69 rfl rfl rfl rfl rfl (Nat.le_of_ble_eq_true rfl) rfl ?_)) | (refine AOps.st0 rfl rfl (op_store (cs' := [_, _, _, _, _, _]) (i := 1) rfl ts_69 rfl rfl rfl rfl rfl (Nat.le_of_ble_eq_true rfl) rfl ?_)) | (refine AOps.st0 rfl rfl (op_store (cs' := [_, _, _, _, _, _]) (i := 2) rfl ts_69 rfl rfl rfl rfl rfl (Nat.le_of_ble_eq_true rfl) rfl ?_)) | (refine AOps.st0 rfl rfl (op_store (cs' := [_, _, _, _, _, _]) (i := 3) rfl ts_69 rfl rfl rfl rfl rfl (Nat.le_of_ble_eq_true rfl) rfl ?_)) | (refine AOps.st0 rfl rfl (op_store (cs' := [_, _, _, _, _, _]) (i := 4) rfl ts_69 rfl rfl rfl rfl rfl (Nat.le_of_ble_eq_true rfl) rfl ?_)) | (refine AOps.st0 rfl rfl (op_store (cs' := [_, _, _, _, _, _]) (i := 5) rfl ts_69 rfl rfl rfl rfl rfl (Nat.le_of_ble_eq_true rfl) rfl ?_)) | (refine AOps.st0 rfl rfl (op_store (cs' := [_, _, _, _, _, _]) (i := 6) rfl ts_69 rfl rfl rfl rfl rfl (Nat.le_of_ble_eq_true rfl) rfl ?_)) | (refine AOps.st0 rfl rfl (op_store (cs' := [_, _, _, _, _, _]) (i := 7) rfl ts_69 rfl rfl rfl rfl rfl (Nat.le_of_ble_eq_true rfl) rfl ?_)) | (refine AOps.st0 rfl rfl (op_store (cs' := [_, _, _, _, _, _]) (i := 8) rfl ts_69 rfl rfl rfl rfl rfl (Nat.le_of_ble_eq_true rfl) rfl ?_)) | (refine AOps.st0 rfl rfl (op_store (cs' := [_, _, _, _, _, _]) (i := 9) rfl ts_69 rfl rfl rfl rfl rfl (Nat.le_of_ble_eq_true rfl) rfl ?_))
  refine AOps.nil ?_
  refine go_code ?_
  refine c_ret ?_
  exact out_cell (i := 2) rfl rfl rfl ta_69 rfl (Le.refl _) (MLe.drop _ (MLe.cons _ (MLe.drop _ MLe.nil))) ⟨rfl, rfl⟩
end Go.Proofs.Ytflkdojahfmbnaa
