/- cognateref05.Bound, Without, Join, frees, Free -/
import Derived.Test.YtjgjnheeohfmmaaB05q
import Derived.Test.YtjgjnheeohfmmaaPJ
namespace Go.Proofs.Ytjgjnheeohfmmaa
open Go.RowKit
set_option maxHeartbeats 4000000 in
set_option maxRecDepth 100000 in
theorem Join_c (l more : List Txt) (hb : l.length + more.length ≤ 10000000000) : OCall Try.prog 56 [.seq 1 (strs l), .seq 1 (strs more)] 9 1 (strs (jn l more)) := by
  have hl1 := strs_len l
  have hl2 := strs_len more
  refine ACall.enter Try.func56 rfl (by kernel_rfl) rfl (Nat.le_of_ble_eq_true rfl) ?_
  refine c_start ?_
  refine c_lens (t := 1) rfl (.seq _ _) (fun hmax => ?_)
  refine c_seq ?_
  refine c_region ?_
  refine AOps.st 4 rfl rfl rfl (op_assign rfl rfl ?_)
  refine AOps.nil ?_
  refine go_code ?_
  refine c_seq ?_
  refine c_region ?_
  refine AOps.st 5 rfl rfl rfl (op_assign rfl rfl ?_)
  refine AOps.nil ?_
  refine go_code ?_
  refine c_seq ?_
  refine ACode.ownNil (t := 5) 9 1 rfl ?_
  refine c_region ?_
  refine AOps.st 7 rfl rfl rfl (op_move rfl rfl ?_)
  refine AOps.st 8 rfl rfl rfl (op_move rfl rfl ?_)
  first | (refine AOps.st 9 rfl rfl rfl (op_append (i := 0) el_27 rfl rfl rfl rfl (.seq _ _) (by simp only [List.length_nil]; omega) ?_)) | (refine AOps.st 9 rfl rfl rfl (op_append (i := 1) el_27 rfl rfl rfl rfl (.seq _ _) (by simp only [List.length_nil]; omega) ?_)) | (refine AOps.st 9 rfl rfl rfl (op_append (i := 2) el_27 rfl rfl rfl rfl (.seq _ _) (by simp only [List.length_nil]; omega) ?_)) | (refine AOps.st 9 rfl rfl rfl (op_append (i := 3) el_27 rfl rfl rfl rfl (.seq _ _) (by simp only [List.length_nil]; omega) ?_)) | (refine AOps.st 9 rfl rfl rfl (op_append (i := 0) el_27 rfl rfl rfl rfl (.own _ _ _) (by simp only [List.length_nil]; omega) ?_)) | (refine AOps.st 9 rfl rfl rfl (op_append (i := 1) el_27 rfl rfl rfl rfl (.own _ _ _) (by simp only [List.length_nil]; omega) ?_)) | (refine AOps.st 9 rfl rfl rfl (op_append (i := 2) el_27 rfl rfl rfl rfl (.own _ _ _) (by simp only [List.length_nil]; omega) ?_)) | (refine AOps.st 9 rfl rfl rfl (op_append (i := 3) el_27 rfl rfl rfl rfl (.own _ _ _) (by simp only [List.length_nil]; omega) ?_)) | (refine AOps.st 9 rfl rfl rfl (op_append (i := 0) el_27 rfl rfl rfl rfl (.nil _) (by simp only [List.length_nil]; omega) ?_)) | (refine AOps.st 9 rfl rfl rfl (op_append (i := 1) el_27 rfl rfl rfl rfl (.nil _) (by simp only [List.length_nil]; omega) ?_)) | (refine AOps.st 9 rfl rfl rfl (op_append (i := 2) el_27 rfl rfl rfl rfl (.nil _) (by simp only [List.length_nil]; omega) ?_)) | (refine AOps.st 9 rfl rfl rfl (op_append (i := 3) el_27 rfl rfl rfl rfl (.nil _) (by simp only [List.length_nil]; omega) ?_)) | (refine AOps.st 9 rfl rfl rfl (op_append_nil el_27 rfl rfl rfl (.seq _ _) (by simp only [List.length_nil]; omega) ?_)) | (refine AOps.st 9 rfl rfl rfl (op_append_nil el_27 rfl rfl rfl (.own _ _ _) (by simp only [List.length_nil]; omega) ?_)) | (refine AOps.st 9 rfl rfl rfl (op_append_nil el_27 rfl rfl rfl (.nil _) (by simp only [List.length_nil]; omega) ?_))
  intro u9
  refine AOps.st 5 rfl rfl rfl (op_assign rfl rfl ?_)
  refine AOps.nil ?_
  refine go_code ?_
  refine c_seq ?_
  refine c_seq ?_
  refine c_region ?_
  refine AOps.st 6 rfl rfl rfl (op_assign rfl rfl ?_)
  refine AOps.nil ?_
  refine go_code ?_
  refine c_block ?_
  refine c_loop (σ := Nat × List Txt × Value) (fun zz => match zz with | (i, o, u) => [(1, .seq 1 (strs more)), (5, .own u 1 (strs o)), (6, .val (.int .i64 i))]) (fun zz => match zz with | (i, o, u) => [.own 9 1 u]) (fun zz => match zz with | (i, o, u) => i ≤ more.length ∧ o.length ≤ l.length + i ∧ jn o (more.drop i) = jn l more) (fun zz => match zz with | (i, o, u) => more.length - i) ((0, l, u9)) ?_ ?_ ?_ ?_
  · exact ⟨by omega, by omega, rfl⟩
  · exact (by repeat' (first | exact SLe.nil _ | refine SLe.cons rfl ?_ ?_ | exact Le.refl _ | exact Le.own _ _ _ | exact Le.nil _))
  · exact (by first | exact MLe.none _ | exact MLe.refl _ | (repeat' (first | exact MLe.nil | exact MLe.refl _ | refine MLe.cons _ ?_ | refine MLe.drop _ ?_)))
  rintro ⟨i, o, u⟩ hI
  try dsimp only at hI ⊢
  obtain ⟨hi, ho, hj⟩ := hI
  refine c_seq ?_
  refine c_seq ?_
  refine c_region ?_
  refine AOps.st 10 rfl rfl rfl (op_move rfl rfl ?_)
  refine AOps.st 11 rfl rfl rfl (op_move rfl rfl ?_)
  first | (refine AOps.st 12 rfl rfl rfl (op_len rfl tu_27 rfl (.seq _ _) (fun n12 => ?_))) | (refine AOps.st 12 rfl rfl rfl (op_len rfl tu_27 rfl (.own _ _ _) (fun n12 => ?_))) | (refine AOps.st 12 rfl rfl rfl (op_len rfl tu_27 rfl (.nil 0) (fun n12 => ?_))) | (refine AOps.st 12 rfl rfl rfl (op_len_arr rfl tu_27 rfl ?_))
  refine AOps.st 13 rfl rfl rfl (op_lss rfl rfl rfl ?_); intro c13 h13
  refine AOps.nil ?_
  refine go_code ?_
  rcases bool_split h13 with ⟨rfl, g13⟩ | ⟨rfl, g13⟩
  · refine c_cond_f rfl ?_
    refine c_exit ?_
    refine x_code ?_
    refine x_lp ?_
    refine x_here ?_
    refine go_code ?_
    refine c_seq ?_
    refine c_region ?_
    refine AOps.st 30 rfl rfl rfl (op_move rfl rfl ?_)
    refine AOps.st 4 rfl rfl rfl (op_assign rfl rfl ?_)
    refine AOps.nil ?_
    refine go_code ?_
    refine c_ret ?_
    refine out_tmp rfl rfl (Le.own_eq ?_) (by first | exact MLe.none _ | exact MLe.refl _ | (repeat' (first | exact MLe.nil | exact MLe.refl _ | refine MLe.cons _ ?_ | refine MLe.drop _ ?_))) ⟨_, rfl, rfl⟩
    rw [← hj, List.drop_eq_nil_of_le (by omega), jn_nil]
  · refine c_cond_t rfl ?_
    refine c_skip ?_
    refine go_code ?_
    refine c_seq ?_
    refine c_block ?_
    refine c_seq ?_
    obtain ⟨x, hx⟩ := get_some (l := more) (i := i) (by omega)
    have hcx := strs_get hx
    have hlo := strs_len o
    have hst : jn o (more.drop i) = jn (if x ∈ o then o else o ++ [x]) (more.drop (i + 1)) := by rw [drop_get hx, jn_cons]
    refine c_region ?_
    refine AOps.st 16 rfl rfl rfl (op_move rfl rfl ?_)
    refine AOps.st 17 rfl rfl rfl (op_move rfl rfl ?_)
    refine AOps.st 18 rfl rfl rfl (op_move rfl rfl ?_)
    first | (refine AOps.st 19 rfl rfl rfl (op_index rfl te_27 rfl (.seq _ _) rfl rfl (by assumption) ?_)) | (refine AOps.st 19 rfl rfl rfl (op_index (i := 0) rfl te_27 rfl (.seq _ _) rfl rfl (by first | rfl | assumption) ?_)) | (refine AOps.st 19 rfl rfl rfl (op_index (i := 1) rfl te_27 rfl (.seq _ _) rfl rfl (by first | rfl | assumption) ?_)) | (refine AOps.st 19 rfl rfl rfl (op_index rfl te_27 rfl (.own _ _ _) rfl rfl (by assumption) ?_)) | (refine AOps.st 19 rfl rfl rfl (op_index (i := 0) rfl te_27 rfl (.own _ _ _) rfl rfl (by first | rfl | assumption) ?_)) | (refine AOps.st 19 rfl rfl rfl (op_index (i := 1) rfl te_27 rfl (.own _ _ _) rfl rfl (by first | rfl | assumption) ?_)) | (refine AOps.st 19 rfl rfl rfl (op_index_arr rfl te_27 rfl rfl rfl (by omega) ?_))
    first | (refine AOps.st 20 rfl rfl rfl (op_load_m1 (i := 0) rfl ta_9 rfl rfl rfl ?_)) | (refine AOps.st 20 rfl rfl rfl (op_load_m1 (i := 1) rfl ta_9 rfl rfl rfl ?_)) | (refine AOps.st 20 rfl rfl rfl (op_load_m1 (i := 2) rfl ta_9 rfl rfl rfl ?_)) | (refine AOps.st 20 rfl rfl rfl (op_load_m1 (i := 3) rfl ta_9 rfl rfl rfl ?_)) | (refine AOps.st 20 rfl rfl rfl (op_load_m1 (i := 4) rfl ta_9 rfl rfl rfl ?_)) | (refine AOps.st 20 rfl rfl rfl (op_load_m1 (i := 5) rfl ta_9 rfl rfl rfl ?_)) | (refine AOps.st 20 rfl rfl rfl (op_load_c1 rfl ta_9 rfl rfl ?_))
    refine AOps.st 21 rfl rfl rfl (op_callb (xs := [.tmp 16, .tmp 20]) rfl rfl (Has_c o x) (by first | exact Les.refl _ | (repeat' (first | exact Les.refl _ | refine Les.cons ?_ ?_ | exact Le.refl _ | exact Le.own _ _ _ | exact Le.nil _ | refine Le.agg ?_))) ?_); intro c21 h21
    refine AOps.st 22 rfl rfl rfl (op_notc rfl rfl ?_); intro c22 h22
    try replace h22 := nott h22 h21
    refine AOps.nil ?_
    refine go_code ?_
    rcases bool_split h22 with ⟨rfl, g22⟩ | ⟨rfl, g22⟩
    · refine c_cond_f rfl ?_
      refine c_skip ?_
      refine go_blk ?_
      refine go_code ?_
      refine c_region ?_
      refine AOps.st 14 rfl rfl rfl (op_move rfl rfl ?_)
      first | (refine AOps.st 15 rfl rfl rfl (op_add rfl rfl rfl (IntWalk.i64_in _ (by omega)) ?_)) | (refine AOps.st 15 rfl rfl rfl (op_add rfl rfl rfl rfl ?_))
      refine AOps.st 6 rfl rfl rfl (op_assign rfl rfl ?_)
      refine AOps.nil ?_
      refine go_lp ?_
      first | exact ⟨(i + 1, o ++ [x], u29), ⟨by dsimp only; omega, by rw [List.length_append, List.length_singleton]; dsimp only; omega, by rw [← hj, hst, if_neg g22]⟩, by simp; omega, (by repeat' (first | exact SLe.nil _ | refine SLe.cons rfl ?_ ?_ | exact Le.refl _ | exact Le.own _ _ _ | exact Le.nil _ | (refine Le.own_eq ?_; (rw [strs_app]; rfl)) | (refine Le.own_seq ?_; (rw [strs_app]; rfl)) | (refine Le.seq_eq ?_; (rw [strs_app]; rfl)))), (by first | exact MLe.none _ | exact MLe.refl _ | (repeat' (first | exact MLe.nil | exact MLe.refl _ | refine MLe.cons _ ?_ | refine MLe.drop _ ?_)))⟩ | exact ⟨(i + 1, o, u), ⟨by dsimp only; omega, by dsimp only; omega, by rw [← hj, hst, if_pos (Classical.not_not.1 g22)]⟩, by simp; omega, (by repeat' (first | exact SLe.nil _ | refine SLe.cons rfl ?_ ?_ | exact Le.refl _ | exact Le.own _ _ _ | exact Le.nil _)), (by first | exact MLe.none _ | exact MLe.refl _ | (repeat' (first | exact MLe.nil | exact MLe.refl _ | refine MLe.cons _ ?_ | refine MLe.drop _ ?_)))⟩
    · refine c_cond_t rfl ?_
      refine c_region ?_
      refine AOps.st 23 rfl rfl rfl (op_move rfl rfl ?_)
      refine AOps.st 24 rfl rfl rfl (op_move rfl rfl ?_)
      refine AOps.st 25 rfl rfl rfl (op_move rfl rfl ?_)
      first | (refine AOps.st 26 rfl rfl rfl (op_index rfl te_27 rfl (.seq _ _) rfl rfl (by assumption) ?_)) | (refine AOps.st 26 rfl rfl rfl (op_index (i := 0) rfl te_27 rfl (.seq _ _) rfl rfl (by first | rfl | assumption) ?_)) | (refine AOps.st 26 rfl rfl rfl (op_index (i := 1) rfl te_27 rfl (.seq _ _) rfl rfl (by first | rfl | assumption) ?_)) | (refine AOps.st 26 rfl rfl rfl (op_index rfl te_27 rfl (.own _ _ _) rfl rfl (by assumption) ?_)) | (refine AOps.st 26 rfl rfl rfl (op_index (i := 0) rfl te_27 rfl (.own _ _ _) rfl rfl (by first | rfl | assumption) ?_)) | (refine AOps.st 26 rfl rfl rfl (op_index (i := 1) rfl te_27 rfl (.own _ _ _) rfl rfl (by first | rfl | assumption) ?_)) | (refine AOps.st 26 rfl rfl rfl (op_index_arr rfl te_27 rfl rfl rfl (by omega) ?_))
      first | (refine AOps.st 27 rfl rfl rfl (op_load_m1 (i := 0) rfl ta_9 rfl rfl rfl ?_)) | (refine AOps.st 27 rfl rfl rfl (op_load_m1 (i := 1) rfl ta_9 rfl rfl rfl ?_)) | (refine AOps.st 27 rfl rfl rfl (op_load_m1 (i := 2) rfl ta_9 rfl rfl rfl ?_)) | (refine AOps.st 27 rfl rfl rfl (op_load_m1 (i := 3) rfl ta_9 rfl rfl rfl ?_)) | (refine AOps.st 27 rfl rfl rfl (op_load_m1 (i := 4) rfl ta_9 rfl rfl rfl ?_)) | (refine AOps.st 27 rfl rfl rfl (op_load_m1 (i := 5) rfl ta_9 rfl rfl rfl ?_)) | (refine AOps.st 27 rfl rfl rfl (op_load_c1 rfl ta_9 rfl rfl ?_))
      refine AOps.st 28 rfl rfl rfl (op_buildSlice (xs := [.tmp 27]) el_27 rfl rfl rfl rfl rfl rfl (Nat.le_of_ble_eq_true rfl) ?_)
      first | (refine AOps.st 29 rfl rfl rfl (op_append (i := 0) el_27 rfl rfl rfl rfl (.seq _ _) (by simp only [List.length_map, List.length_reverse, List.length_cons, List.length_nil]; omega) ?_)) | (refine AOps.st 29 rfl rfl rfl (op_append (i := 1) el_27 rfl rfl rfl rfl (.seq _ _) (by simp only [List.length_map, List.length_reverse, List.length_cons, List.length_nil]; omega) ?_)) | (refine AOps.st 29 rfl rfl rfl (op_append (i := 2) el_27 rfl rfl rfl rfl (.seq _ _) (by simp only [List.length_map, List.length_reverse, List.length_cons, List.length_nil]; omega) ?_)) | (refine AOps.st 29 rfl rfl rfl (op_append (i := 3) el_27 rfl rfl rfl rfl (.seq _ _) (by simp only [List.length_map, List.length_reverse, List.length_cons, List.length_nil]; omega) ?_)) | (refine AOps.st 29 rfl rfl rfl (op_append (i := 0) el_27 rfl rfl rfl rfl (.own _ _ _) (by simp only [List.length_map, List.length_reverse, List.length_cons, List.length_nil]; omega) ?_)) | (refine AOps.st 29 rfl rfl rfl (op_append (i := 1) el_27 rfl rfl rfl rfl (.own _ _ _) (by simp only [List.length_map, List.length_reverse, List.length_cons, List.length_nil]; omega) ?_)) | (refine AOps.st 29 rfl rfl rfl (op_append (i := 2) el_27 rfl rfl rfl rfl (.own _ _ _) (by simp only [List.length_map, List.length_reverse, List.length_cons, List.length_nil]; omega) ?_)) | (refine AOps.st 29 rfl rfl rfl (op_append (i := 3) el_27 rfl rfl rfl rfl (.own _ _ _) (by simp only [List.length_map, List.length_reverse, List.length_cons, List.length_nil]; omega) ?_)) | (refine AOps.st 29 rfl rfl rfl (op_append (i := 0) el_27 rfl rfl rfl rfl (.nil _) (by simp only [List.length_map, List.length_reverse, List.length_cons, List.length_nil]; omega) ?_)) | (refine AOps.st 29 rfl rfl rfl (op_append (i := 1) el_27 rfl rfl rfl rfl (.nil _) (by simp only [List.length_map, List.length_reverse, List.length_cons, List.length_nil]; omega) ?_)) | (refine AOps.st 29 rfl rfl rfl (op_append (i := 2) el_27 rfl rfl rfl rfl (.nil _) (by simp only [List.length_map, List.length_reverse, List.length_cons, List.length_nil]; omega) ?_)) | (refine AOps.st 29 rfl rfl rfl (op_append (i := 3) el_27 rfl rfl rfl rfl (.nil _) (by simp only [List.length_map, List.length_reverse, List.length_cons, List.length_nil]; omega) ?_)) | (refine AOps.st 29 rfl rfl rfl (op_append_nil el_27 rfl rfl rfl (.seq _ _) (by simp only [List.length_map, List.length_reverse, List.length_cons, List.length_nil]; omega) ?_)) | (refine AOps.st 29 rfl rfl rfl (op_append_nil el_27 rfl rfl rfl (.own _ _ _) (by simp only [List.length_map, List.length_reverse, List.length_cons, List.length_nil]; omega) ?_)) | (refine AOps.st 29 rfl rfl rfl (op_append_nil el_27 rfl rfl rfl (.nil _) (by simp only [List.length_map, List.length_reverse, List.length_cons, List.length_nil]; omega) ?_))
      intro u29
      refine AOps.st 5 rfl rfl rfl (op_assign rfl rfl ?_)
      refine AOps.nil ?_
      refine go_blk ?_
      refine go_code ?_
      refine c_region ?_
      refine AOps.st 14 rfl rfl rfl (op_move rfl rfl ?_)
      first | (refine AOps.st 15 rfl rfl rfl (op_add rfl rfl rfl (IntWalk.i64_in _ (by omega)) ?_)) | (refine AOps.st 15 rfl rfl rfl (op_add rfl rfl rfl rfl ?_))
      refine AOps.st 6 rfl rfl rfl (op_assign rfl rfl ?_)
      refine AOps.nil ?_
      refine go_lp ?_
      first | exact ⟨(i + 1, o ++ [x], u29), ⟨by dsimp only; omega, by rw [List.length_append, List.length_singleton]; dsimp only; omega, by rw [← hj, hst, if_neg g22]⟩, by simp; omega, (by repeat' (first | exact SLe.nil _ | refine SLe.cons rfl ?_ ?_ | exact Le.refl _ | exact Le.own _ _ _ | exact Le.nil _ | (refine Le.own_eq ?_; (rw [strs_app]; rfl)) | (refine Le.own_seq ?_; (rw [strs_app]; rfl)) | (refine Le.seq_eq ?_; (rw [strs_app]; rfl)))), (by first | exact MLe.none _ | exact MLe.refl _ | (repeat' (first | exact MLe.nil | exact MLe.refl _ | refine MLe.cons _ ?_ | refine MLe.drop _ ?_)))⟩ | exact ⟨(i + 1, o, u), ⟨by dsimp only; omega, by dsimp only; omega, by rw [← hj, hst, if_pos (Classical.not_not.1 g22)]⟩, by simp; omega, (by repeat' (first | exact SLe.nil _ | refine SLe.cons rfl ?_ ?_ | exact Le.refl _ | exact Le.own _ _ _ | exact Le.nil _)), (by first | exact MLe.none _ | exact MLe.refl _ | (repeat' (first | exact MLe.nil | exact MLe.refl _ | refine MLe.cons _ ?_ | refine MLe.drop _ ?_)))⟩
set_option maxHeartbeats 4000000 in
set_option maxRecDepth 100000 in
theorem Without_c (l gone : List Txt) (hb : l.length ≤ 10000000000) : OCall Try.prog 98 [.seq 1 (strs l), .seq 1 (strs gone)] 9 1 (strs (wo l gone)) := by
  have hl1 := strs_len l
  refine ACall.enter Try.func98 rfl (by kernel_rfl) rfl (Nat.le_of_ble_eq_true rfl) ?_
  refine c_start ?_
  refine c_lens (t := 0) rfl (.seq _ _) (fun hmax => ?_)
  refine c_seq ?_
  refine c_region ?_
  refine AOps.st 4 rfl rfl rfl (op_assign rfl rfl ?_)
  refine AOps.nil ?_
  refine go_code ?_
  refine c_seq ?_
  refine c_region ?_
  refine AOps.st 5 rfl rfl rfl (op_assign rfl rfl ?_)
  refine AOps.nil ?_
  refine go_code ?_
  refine c_seq ?_
  refine c_seq ?_
  refine ACode.ownNil (t := 5) 9 1 rfl ?_
  refine c_region ?_
  refine AOps.st 6 rfl rfl rfl (op_assign rfl rfl ?_)
  refine AOps.nil ?_
  refine go_code ?_
  refine c_block ?_
  refine c_loop (σ := Nat × List Txt × Value) (fun zz => match zz with | (i, o, u) => [(0, .seq 1 (strs l)), (1, .seq 1 (strs gone)), (5, .own u 1 (strs o)), (6, .val (.int .i64 i))]) (fun zz => match zz with | (i, o, u) => [.own 9 1 u]) (fun zz => match zz with | (i, o, u) => i ≤ l.length ∧ o.length ≤ i ∧ o ++ wo (l.drop i) gone = wo l gone) (fun zz => match zz with | (i, o, u) => l.length - i) ((0, [], .slice none 0 0)) ?_ ?_ ?_ ?_
  · exact ⟨by omega, by simp, rfl⟩
  · exact (by repeat' (first | exact SLe.nil _ | refine SLe.cons rfl ?_ ?_ | exact Le.refl _ | exact Le.own _ _ _ | exact Le.nil _))
  · exact (by first | exact MLe.none _ | exact MLe.refl _ | (repeat' (first | exact MLe.nil | exact MLe.refl _ | refine MLe.cons _ ?_ | refine MLe.drop _ ?_)))
  rintro ⟨i, o, u⟩ hI
  try dsimp only at hI ⊢
  obtain ⟨hi, ho, hj⟩ := hI
  refine c_seq ?_
  refine c_seq ?_
  refine c_region ?_
  refine AOps.st 7 rfl rfl rfl (op_move rfl rfl ?_)
  refine AOps.st 8 rfl rfl rfl (op_move rfl rfl ?_)
  first | (refine AOps.st 9 rfl rfl rfl (op_len rfl tu_27 rfl (.seq _ _) (fun n9 => ?_))) | (refine AOps.st 9 rfl rfl rfl (op_len rfl tu_27 rfl (.own _ _ _) (fun n9 => ?_))) | (refine AOps.st 9 rfl rfl rfl (op_len rfl tu_27 rfl (.nil 0) (fun n9 => ?_))) | (refine AOps.st 9 rfl rfl rfl (op_len_arr rfl tu_27 rfl ?_))
  refine AOps.st 10 rfl rfl rfl (op_lss rfl rfl rfl ?_); intro c10 h10
  refine AOps.nil ?_
  refine go_code ?_
  rcases bool_split h10 with ⟨rfl, g10⟩ | ⟨rfl, g10⟩
  · refine c_cond_f rfl ?_
    refine c_exit ?_
    refine x_code ?_
    refine x_lp ?_
    refine x_here ?_
    refine go_code ?_
    refine c_seq ?_
    refine c_region ?_
    refine AOps.st 27 rfl rfl rfl (op_move rfl rfl ?_)
    refine AOps.st 4 rfl rfl rfl (op_assign rfl rfl ?_)
    refine AOps.nil ?_
    refine go_code ?_
    refine c_ret ?_
    refine out_tmp rfl rfl (Le.own_eq ?_) (by first | exact MLe.none _ | exact MLe.refl _ | (repeat' (first | exact MLe.nil | exact MLe.refl _ | refine MLe.cons _ ?_ | refine MLe.drop _ ?_))) ⟨_, rfl, rfl⟩
    rw [← hj, List.drop_eq_nil_of_le (by omega)]
    simp [wo]
  · refine c_cond_t rfl ?_
    refine c_skip ?_
    refine go_code ?_
    refine c_seq ?_
    refine c_block ?_
    refine c_seq ?_
    obtain ⟨x, hx⟩ := get_some (l := l) (i := i) (by omega)
    have hcx := strs_get hx
    have hlo := strs_len o
    have hst : wo (l.drop i) gone = (if x ∈ gone then [] else [x]) ++ wo (l.drop (i + 1)) gone := by
      rw [drop_get hx]
      by_cases q : x ∈ gone <;> simp [wo, q]
    refine c_region ?_
    refine AOps.st 13 rfl rfl rfl (op_move rfl rfl ?_)
    refine AOps.st 14 rfl rfl rfl (op_move rfl rfl ?_)
    refine AOps.st 15 rfl rfl rfl (op_move rfl rfl ?_)
    first | (refine AOps.st 16 rfl rfl rfl (op_index rfl te_27 rfl (.seq _ _) rfl rfl (by assumption) ?_)) | (refine AOps.st 16 rfl rfl rfl (op_index (i := 0) rfl te_27 rfl (.seq _ _) rfl rfl (by first | rfl | assumption) ?_)) | (refine AOps.st 16 rfl rfl rfl (op_index (i := 1) rfl te_27 rfl (.seq _ _) rfl rfl (by first | rfl | assumption) ?_)) | (refine AOps.st 16 rfl rfl rfl (op_index rfl te_27 rfl (.own _ _ _) rfl rfl (by assumption) ?_)) | (refine AOps.st 16 rfl rfl rfl (op_index (i := 0) rfl te_27 rfl (.own _ _ _) rfl rfl (by first | rfl | assumption) ?_)) | (refine AOps.st 16 rfl rfl rfl (op_index (i := 1) rfl te_27 rfl (.own _ _ _) rfl rfl (by first | rfl | assumption) ?_)) | (refine AOps.st 16 rfl rfl rfl (op_index_arr rfl te_27 rfl rfl rfl (by omega) ?_))
    first | (refine AOps.st 17 rfl rfl rfl (op_load_m1 (i := 0) rfl ta_9 rfl rfl rfl ?_)) | (refine AOps.st 17 rfl rfl rfl (op_load_m1 (i := 1) rfl ta_9 rfl rfl rfl ?_)) | (refine AOps.st 17 rfl rfl rfl (op_load_m1 (i := 2) rfl ta_9 rfl rfl rfl ?_)) | (refine AOps.st 17 rfl rfl rfl (op_load_m1 (i := 3) rfl ta_9 rfl rfl rfl ?_)) | (refine AOps.st 17 rfl rfl rfl (op_load_m1 (i := 4) rfl ta_9 rfl rfl rfl ?_)) | (refine AOps.st 17 rfl rfl rfl (op_load_m1 (i := 5) rfl ta_9 rfl rfl rfl ?_)) | (refine AOps.st 17 rfl rfl rfl (op_load_c1 rfl ta_9 rfl rfl ?_))
    refine AOps.st 18 rfl rfl rfl (op_callb (xs := [.tmp 13, .tmp 17]) rfl rfl (Has_c gone x) (by first | exact Les.refl _ | (repeat' (first | exact Les.refl _ | refine Les.cons ?_ ?_ | exact Le.refl _ | exact Le.own _ _ _ | exact Le.nil _ | refine Le.agg ?_))) ?_); intro c18 h18
    refine AOps.st 19 rfl rfl rfl (op_notc rfl rfl ?_); intro c19 h19
    try replace h19 := nott h19 h18
    refine AOps.nil ?_
    refine go_code ?_
    rcases bool_split h19 with ⟨rfl, g19⟩ | ⟨rfl, g19⟩
    · refine c_cond_f rfl ?_
      refine c_skip ?_
      refine go_blk ?_
      refine go_code ?_
      refine c_region ?_
      refine AOps.st 11 rfl rfl rfl (op_move rfl rfl ?_)
      first | (refine AOps.st 12 rfl rfl rfl (op_add rfl rfl rfl (IntWalk.i64_in _ (by omega)) ?_)) | (refine AOps.st 12 rfl rfl rfl (op_add rfl rfl rfl rfl ?_))
      refine AOps.st 6 rfl rfl rfl (op_assign rfl rfl ?_)
      refine AOps.nil ?_
      refine go_lp ?_
      first | exact ⟨(i + 1, o ++ [x], u26), ⟨by dsimp only; omega, by rw [List.length_append, List.length_singleton]; dsimp only; omega, by rw [← hj, hst, if_neg g19]; simp⟩, by simp; omega, (by repeat' (first | exact SLe.nil _ | refine SLe.cons rfl ?_ ?_ | exact Le.refl _ | exact Le.own _ _ _ | exact Le.nil _ | (refine Le.own_eq ?_; (rw [strs_app]; rfl)) | (refine Le.own_seq ?_; (rw [strs_app]; rfl)) | (refine Le.seq_eq ?_; (rw [strs_app]; rfl)))), (by first | exact MLe.none _ | exact MLe.refl _ | (repeat' (first | exact MLe.nil | exact MLe.refl _ | refine MLe.cons _ ?_ | refine MLe.drop _ ?_)))⟩ | exact ⟨(i + 1, o, u), ⟨by dsimp only; omega, by dsimp only; omega, by rw [← hj, hst, if_pos (Classical.not_not.1 g19)]; simp⟩, by simp; omega, (by repeat' (first | exact SLe.nil _ | refine SLe.cons rfl ?_ ?_ | exact Le.refl _ | exact Le.own _ _ _ | exact Le.nil _)), (by first | exact MLe.none _ | exact MLe.refl _ | (repeat' (first | exact MLe.nil | exact MLe.refl _ | refine MLe.cons _ ?_ | refine MLe.drop _ ?_)))⟩
    · refine c_cond_t rfl ?_
      refine c_region ?_
      refine AOps.st 20 rfl rfl rfl (op_move rfl rfl ?_)
      refine AOps.st 21 rfl rfl rfl (op_move rfl rfl ?_)
      refine AOps.st 22 rfl rfl rfl (op_move rfl rfl ?_)
      first | (refine AOps.st 23 rfl rfl rfl (op_index rfl te_27 rfl (.seq _ _) rfl rfl (by assumption) ?_)) | (refine AOps.st 23 rfl rfl rfl (op_index (i := 0) rfl te_27 rfl (.seq _ _) rfl rfl (by first | rfl | assumption) ?_)) | (refine AOps.st 23 rfl rfl rfl (op_index (i := 1) rfl te_27 rfl (.seq _ _) rfl rfl (by first | rfl | assumption) ?_)) | (refine AOps.st 23 rfl rfl rfl (op_index rfl te_27 rfl (.own _ _ _) rfl rfl (by assumption) ?_)) | (refine AOps.st 23 rfl rfl rfl (op_index (i := 0) rfl te_27 rfl (.own _ _ _) rfl rfl (by first | rfl | assumption) ?_)) | (refine AOps.st 23 rfl rfl rfl (op_index (i := 1) rfl te_27 rfl (.own _ _ _) rfl rfl (by first | rfl | assumption) ?_)) | (refine AOps.st 23 rfl rfl rfl (op_index_arr rfl te_27 rfl rfl rfl (by omega) ?_))
      first | (refine AOps.st 24 rfl rfl rfl (op_load_m1 (i := 0) rfl ta_9 rfl rfl rfl ?_)) | (refine AOps.st 24 rfl rfl rfl (op_load_m1 (i := 1) rfl ta_9 rfl rfl rfl ?_)) | (refine AOps.st 24 rfl rfl rfl (op_load_m1 (i := 2) rfl ta_9 rfl rfl rfl ?_)) | (refine AOps.st 24 rfl rfl rfl (op_load_m1 (i := 3) rfl ta_9 rfl rfl rfl ?_)) | (refine AOps.st 24 rfl rfl rfl (op_load_m1 (i := 4) rfl ta_9 rfl rfl rfl ?_)) | (refine AOps.st 24 rfl rfl rfl (op_load_m1 (i := 5) rfl ta_9 rfl rfl rfl ?_)) | (refine AOps.st 24 rfl rfl rfl (op_load_c1 rfl ta_9 rfl rfl ?_))
      refine AOps.st 25 rfl rfl rfl (op_buildSlice (xs := [.tmp 24]) el_27 rfl rfl rfl rfl rfl rfl (Nat.le_of_ble_eq_true rfl) ?_)
      first | (refine AOps.st 26 rfl rfl rfl (op_append (i := 0) el_27 rfl rfl rfl rfl (.seq _ _) (by simp only [List.length_map, List.length_reverse, List.length_cons, List.length_nil]; omega) ?_)) | (refine AOps.st 26 rfl rfl rfl (op_append (i := 1) el_27 rfl rfl rfl rfl (.seq _ _) (by simp only [List.length_map, List.length_reverse, List.length_cons, List.length_nil]; omega) ?_)) | (refine AOps.st 26 rfl rfl rfl (op_append (i := 2) el_27 rfl rfl rfl rfl (.seq _ _) (by simp only [List.length_map, List.length_reverse, List.length_cons, List.length_nil]; omega) ?_)) | (refine AOps.st 26 rfl rfl rfl (op_append (i := 3) el_27 rfl rfl rfl rfl (.seq _ _) (by simp only [List.length_map, List.length_reverse, List.length_cons, List.length_nil]; omega) ?_)) | (refine AOps.st 26 rfl rfl rfl (op_append (i := 0) el_27 rfl rfl rfl rfl (.own _ _ _) (by simp only [List.length_map, List.length_reverse, List.length_cons, List.length_nil]; omega) ?_)) | (refine AOps.st 26 rfl rfl rfl (op_append (i := 1) el_27 rfl rfl rfl rfl (.own _ _ _) (by simp only [List.length_map, List.length_reverse, List.length_cons, List.length_nil]; omega) ?_)) | (refine AOps.st 26 rfl rfl rfl (op_append (i := 2) el_27 rfl rfl rfl rfl (.own _ _ _) (by simp only [List.length_map, List.length_reverse, List.length_cons, List.length_nil]; omega) ?_)) | (refine AOps.st 26 rfl rfl rfl (op_append (i := 3) el_27 rfl rfl rfl rfl (.own _ _ _) (by simp only [List.length_map, List.length_reverse, List.length_cons, List.length_nil]; omega) ?_)) | (refine AOps.st 26 rfl rfl rfl (op_append (i := 0) el_27 rfl rfl rfl rfl (.nil _) (by simp only [List.length_map, List.length_reverse, List.length_cons, List.length_nil]; omega) ?_)) | (refine AOps.st 26 rfl rfl rfl (op_append (i := 1) el_27 rfl rfl rfl rfl (.nil _) (by simp only [List.length_map, List.length_reverse, List.length_cons, List.length_nil]; omega) ?_)) | (refine AOps.st 26 rfl rfl rfl (op_append (i := 2) el_27 rfl rfl rfl rfl (.nil _) (by simp only [List.length_map, List.length_reverse, List.length_cons, List.length_nil]; omega) ?_)) | (refine AOps.st 26 rfl rfl rfl (op_append (i := 3) el_27 rfl rfl rfl rfl (.nil _) (by simp only [List.length_map, List.length_reverse, List.length_cons, List.length_nil]; omega) ?_)) | (refine AOps.st 26 rfl rfl rfl (op_append_nil el_27 rfl rfl rfl (.seq _ _) (by simp only [List.length_map, List.length_reverse, List.length_cons, List.length_nil]; omega) ?_)) | (refine AOps.st 26 rfl rfl rfl (op_append_nil el_27 rfl rfl rfl (.own _ _ _) (by simp only [List.length_map, List.length_reverse, List.length_cons, List.length_nil]; omega) ?_)) | (refine AOps.st 26 rfl rfl rfl (op_append_nil el_27 rfl rfl rfl (.nil _) (by simp only [List.length_map, List.length_reverse, List.length_cons, List.length_nil]; omega) ?_))
      intro u26
      refine AOps.st 5 rfl rfl rfl (op_assign rfl rfl ?_)
      refine AOps.nil ?_
      refine go_blk ?_
      refine go_code ?_
      refine c_region ?_
      refine AOps.st 11 rfl rfl rfl (op_move rfl rfl ?_)
      first | (refine AOps.st 12 rfl rfl rfl (op_add rfl rfl rfl (IntWalk.i64_in _ (by omega)) ?_)) | (refine AOps.st 12 rfl rfl rfl (op_add rfl rfl rfl rfl ?_))
      refine AOps.st 6 rfl rfl rfl (op_assign rfl rfl ?_)
      refine AOps.nil ?_
      refine go_lp ?_
      first | exact ⟨(i + 1, o ++ [x], u26), ⟨by dsimp only; omega, by rw [List.length_append, List.length_singleton]; dsimp only; omega, by rw [← hj, hst, if_neg g19]; simp⟩, by simp; omega, (by repeat' (first | exact SLe.nil _ | refine SLe.cons rfl ?_ ?_ | exact Le.refl _ | exact Le.own _ _ _ | exact Le.nil _ | (refine Le.own_eq ?_; (rw [strs_app]; rfl)) | (refine Le.own_seq ?_; (rw [strs_app]; rfl)) | (refine Le.seq_eq ?_; (rw [strs_app]; rfl)))), (by first | exact MLe.none _ | exact MLe.refl _ | (repeat' (first | exact MLe.nil | exact MLe.refl _ | refine MLe.cons _ ?_ | refine MLe.drop _ ?_)))⟩ | exact ⟨(i + 1, o, u), ⟨by dsimp only; omega, by dsimp only; omega, by rw [← hj, hst, if_pos (Classical.not_not.1 g19)]; simp⟩, by simp; omega, (by repeat' (first | exact SLe.nil _ | refine SLe.cons rfl ?_ ?_ | exact Le.refl _ | exact Le.own _ _ _ | exact Le.nil _)), (by first | exact MLe.none _ | exact MLe.refl _ | (repeat' (first | exact MLe.nil | exact MLe.refl _ | refine MLe.cons _ ?_ | refine MLe.drop _ ?_)))⟩
set_option maxHeartbeats 4000000 in
set_option maxRecDepth 100000 in
theorem Bound_c (l : List Bi) (hb : l.length ≤ 10000000000) : OCall Try.prog 96 [.seq 13 (Bi.cellss l)] 9 1 (strs (Bi.names l)) := by
  have hl1 := Bi.cellss_len l
  refine ACall.enter Try.func96 rfl (by kernel_rfl) rfl (Nat.le_of_ble_eq_true rfl) ?_
  refine c_start ?_
  refine c_lens (t := 0) rfl (.seq _ _) (fun hmax => ?_)
  refine c_seq ?_
  refine c_region ?_
  refine AOps.st 2 rfl rfl rfl (op_assign rfl rfl ?_)
  refine AOps.nil ?_
  refine go_code ?_
  refine c_seq ?_
  refine c_region ?_
  refine AOps.st 3 rfl rfl rfl (op_assign rfl rfl ?_)
  refine AOps.nil ?_
  refine go_code ?_
  refine c_seq ?_
  refine c_seq ?_
  refine ACode.ownNil (t := 3) 9 1 rfl ?_
  refine c_region ?_
  refine AOps.st 4 rfl rfl rfl (op_assign rfl rfl ?_)
  refine AOps.nil ?_
  refine go_code ?_
  refine c_block ?_
  refine c_loop (σ := Nat × Value) (fun zz => match zz with | (i, u) => [(0, .seq 13 (Bi.cellss l)), (3, .own u 1 (strs (Bi.names (l.take i)))), (4, .val (.int .i64 i))]) (fun zz => match zz with | (i, u) => [.own 9 1 u]) (fun zz => match zz with | (i, u) => i ≤ l.length) (fun zz => match zz with | (i, u) => l.length - i) ((0, .slice none 0 0)) ?_ ?_ ?_ ?_
  · simp
  · exact (by repeat' (first | exact SLe.nil _ | refine SLe.cons rfl ?_ ?_ | exact Le.refl _ | exact Le.own _ _ _ | exact Le.nil _))
  · exact (by first | exact MLe.none _ | exact MLe.refl _ | (repeat' (first | exact MLe.nil | exact MLe.refl _ | refine MLe.cons _ ?_ | refine MLe.drop _ ?_)))
  rintro ⟨i, u⟩ hI
  try dsimp only at hI ⊢
  refine c_seq ?_
  refine c_seq ?_
  refine c_region ?_
  refine AOps.st 5 rfl rfl rfl (op_move rfl rfl ?_)
  refine AOps.st 6 rfl rfl rfl (op_move rfl rfl ?_)
  first | (refine AOps.st 7 rfl rfl rfl (op_len rfl tu_58 rfl (.seq _ _) (fun n7 => ?_))) | (refine AOps.st 7 rfl rfl rfl (op_len rfl tu_58 rfl (.own _ _ _) (fun n7 => ?_))) | (refine AOps.st 7 rfl rfl rfl (op_len rfl tu_58 rfl (.nil 0) (fun n7 => ?_))) | (refine AOps.st 7 rfl rfl rfl (op_len_arr rfl tu_58 rfl ?_))
  refine AOps.st 8 rfl rfl rfl (op_lss rfl rfl rfl ?_); intro c8 h8
  refine AOps.nil ?_
  refine go_code ?_
  rcases bool_split h8 with ⟨rfl, g8⟩ | ⟨rfl, g8⟩
  · refine c_cond_f rfl ?_
    refine c_exit ?_
    refine x_code ?_
    refine x_lp ?_
    refine x_here ?_
    refine go_code ?_
    refine c_seq ?_
    refine c_region ?_
    refine AOps.st 19 rfl rfl rfl (op_move rfl rfl ?_)
    refine AOps.st 2 rfl rfl rfl (op_assign rfl rfl ?_)
    refine AOps.nil ?_
    refine go_code ?_
    refine c_ret ?_
    refine out_tmp rfl rfl (Le.own_eq ?_) (by first | exact MLe.none _ | exact MLe.refl _ | (repeat' (first | exact MLe.nil | exact MLe.refl _ | refine MLe.cons _ ?_ | refine MLe.drop _ ?_))) ⟨_, rfl, rfl⟩
    rw [List.take_of_length_le (by omega)]
  · refine c_cond_t rfl ?_
    refine c_skip ?_
    refine go_code ?_
    refine c_seq ?_
    refine c_block ?_
    obtain ⟨⟨ys, ⟨yk, yt, yn, ⟨ytk, yts, ytn, ytks⟩, yks, yal, ybs, yp⟩, yq⟩, hx⟩ := get_some (l := l) (i := i) (by omega)
    have hcx := Bi.cellss_get hx
    have hln := strs_len (Bi.names (l.take i))
    have hlm : (Bi.names (l.take i)).length ≤ i := by simp [Bi.names]; omega
    have e : Bi.names (l.take (i + 1)) = Bi.names (l.take i) ++ [ys] := by rw [List.take_add_one, hx]; simp [Bi.names, Bi.s]
    refine c_region ?_
    refine AOps.st 11 rfl rfl rfl (op_move rfl rfl ?_)
    refine AOps.st 12 rfl rfl rfl (op_move rfl rfl ?_)
    refine AOps.st 13 rfl rfl rfl (op_move rfl rfl ?_)
    first | (refine AOps.st 14 rfl rfl rfl (op_index rfl te_58 rfl (.seq _ _) rfl rfl (by assumption) ?_)) | (refine AOps.st 14 rfl rfl rfl (op_index (i := 0) rfl te_58 rfl (.seq _ _) rfl rfl (by first | rfl | assumption) ?_)) | (refine AOps.st 14 rfl rfl rfl (op_index (i := 1) rfl te_58 rfl (.seq _ _) rfl rfl (by first | rfl | assumption) ?_)) | (refine AOps.st 14 rfl rfl rfl (op_index rfl te_58 rfl (.own _ _ _) rfl rfl (by assumption) ?_)) | (refine AOps.st 14 rfl rfl rfl (op_index (i := 0) rfl te_58 rfl (.own _ _ _) rfl rfl (by first | rfl | assumption) ?_)) | (refine AOps.st 14 rfl rfl rfl (op_index (i := 1) rfl te_58 rfl (.own _ _ _) rfl rfl (by first | rfl | assumption) ?_)) | (refine AOps.st 14 rfl rfl rfl (op_index_arr rfl te_58 rfl rfl rfl (by omega) ?_))
    first | (refine AOps.st 15 rfl rfl rfl (op_fieldAddr_m rfl tf_74_0 rfl ?_)) | (refine AOps.st 15 rfl rfl rfl (op_fieldAddr_c rfl tf_74_0 rfl rfl ?_))
    first | (refine AOps.st 16 rfl rfl rfl (op_load_m1 (i := 0) rfl ta_9 rfl rfl rfl ?_)) | (refine AOps.st 16 rfl rfl rfl (op_load_m1 (i := 1) rfl ta_9 rfl rfl rfl ?_)) | (refine AOps.st 16 rfl rfl rfl (op_load_m1 (i := 2) rfl ta_9 rfl rfl rfl ?_)) | (refine AOps.st 16 rfl rfl rfl (op_load_m1 (i := 3) rfl ta_9 rfl rfl rfl ?_)) | (refine AOps.st 16 rfl rfl rfl (op_load_m1 (i := 4) rfl ta_9 rfl rfl rfl ?_)) | (refine AOps.st 16 rfl rfl rfl (op_load_m1 (i := 5) rfl ta_9 rfl rfl rfl ?_)) | (refine AOps.st 16 rfl rfl rfl (op_load_c1 rfl ta_9 rfl rfl ?_))
    refine AOps.st 17 rfl rfl rfl (op_buildSlice (xs := [.tmp 16]) el_27 rfl rfl rfl rfl rfl rfl (Nat.le_of_ble_eq_true rfl) ?_)
    first | (refine AOps.st 18 rfl rfl rfl (op_append (i := 0) el_27 rfl rfl rfl rfl (.seq _ _) (by simp only [List.length_map, List.length_reverse, List.length_cons, List.length_nil]; omega) ?_)) | (refine AOps.st 18 rfl rfl rfl (op_append (i := 1) el_27 rfl rfl rfl rfl (.seq _ _) (by simp only [List.length_map, List.length_reverse, List.length_cons, List.length_nil]; omega) ?_)) | (refine AOps.st 18 rfl rfl rfl (op_append (i := 2) el_27 rfl rfl rfl rfl (.seq _ _) (by simp only [List.length_map, List.length_reverse, List.length_cons, List.length_nil]; omega) ?_)) | (refine AOps.st 18 rfl rfl rfl (op_append (i := 3) el_27 rfl rfl rfl rfl (.seq _ _) (by simp only [List.length_map, List.length_reverse, List.length_cons, List.length_nil]; omega) ?_)) | (refine AOps.st 18 rfl rfl rfl (op_append (i := 0) el_27 rfl rfl rfl rfl (.own _ _ _) (by simp only [List.length_map, List.length_reverse, List.length_cons, List.length_nil]; omega) ?_)) | (refine AOps.st 18 rfl rfl rfl (op_append (i := 1) el_27 rfl rfl rfl rfl (.own _ _ _) (by simp only [List.length_map, List.length_reverse, List.length_cons, List.length_nil]; omega) ?_)) | (refine AOps.st 18 rfl rfl rfl (op_append (i := 2) el_27 rfl rfl rfl rfl (.own _ _ _) (by simp only [List.length_map, List.length_reverse, List.length_cons, List.length_nil]; omega) ?_)) | (refine AOps.st 18 rfl rfl rfl (op_append (i := 3) el_27 rfl rfl rfl rfl (.own _ _ _) (by simp only [List.length_map, List.length_reverse, List.length_cons, List.length_nil]; omega) ?_)) | (refine AOps.st 18 rfl rfl rfl (op_append (i := 0) el_27 rfl rfl rfl rfl (.nil _) (by simp only [List.length_map, List.length_reverse, List.length_cons, List.length_nil]; omega) ?_)) | (refine AOps.st 18 rfl rfl rfl (op_append (i := 1) el_27 rfl rfl rfl rfl (.nil _) (by simp only [List.length_map, List.length_reverse, List.length_cons, List.length_nil]; omega) ?_)) | (refine AOps.st 18 rfl rfl rfl (op_append (i := 2) el_27 rfl rfl rfl rfl (.nil _) (by simp only [List.length_map, List.length_reverse, List.length_cons, List.length_nil]; omega) ?_)) | (refine AOps.st 18 rfl rfl rfl (op_append (i := 3) el_27 rfl rfl rfl rfl (.nil _) (by simp only [List.length_map, List.length_reverse, List.length_cons, List.length_nil]; omega) ?_)) | (refine AOps.st 18 rfl rfl rfl (op_append_nil el_27 rfl rfl rfl (.seq _ _) (by simp only [List.length_map, List.length_reverse, List.length_cons, List.length_nil]; omega) ?_)) | (refine AOps.st 18 rfl rfl rfl (op_append_nil el_27 rfl rfl rfl (.own _ _ _) (by simp only [List.length_map, List.length_reverse, List.length_cons, List.length_nil]; omega) ?_)) | (refine AOps.st 18 rfl rfl rfl (op_append_nil el_27 rfl rfl rfl (.nil _) (by simp only [List.length_map, List.length_reverse, List.length_cons, List.length_nil]; omega) ?_))
    intro u18
    refine AOps.st 3 rfl rfl rfl (op_assign rfl rfl ?_)
    refine AOps.nil ?_
    refine go_blk ?_
    refine go_code ?_
    refine c_region ?_
    refine AOps.st 9 rfl rfl rfl (op_move rfl rfl ?_)
    first | (refine AOps.st 10 rfl rfl rfl (op_add rfl rfl rfl (IntWalk.i64_in _ (by omega)) ?_)) | (refine AOps.st 10 rfl rfl rfl (op_add rfl rfl rfl rfl ?_))
    refine AOps.st 4 rfl rfl rfl (op_assign rfl rfl ?_)
    refine AOps.nil ?_
    refine go_lp ?_
    exact ⟨(i + 1, u18), by simp; omega, by simp; omega, (by repeat' (first | exact SLe.nil _ | refine SLe.cons rfl ?_ ?_ | exact Le.refl _ | exact Le.own _ _ _ | exact Le.nil _ | (refine Le.own_eq ?_; (rw [e, strs_app]; rfl)) | (refine Le.own_seq ?_; (rw [e, strs_app]; rfl)) | (refine Le.seq_eq ?_; (rw [e, strs_app]; rfl)))), (by first | exact MLe.none _ | exact MLe.refl _ | (repeat' (first | exact MLe.nil | exact MLe.refl _ | refine MLe.cons _ ?_ | refine MLe.drop _ ?_)))⟩
set_option maxHeartbeats 4000000 in
set_option maxRecDepth 100000 in
theorem frees_c (l : List Ex) (hw : Ex.ws l ≤ 1000000000) (H : ∀ x ∈ l, PCall Try.prog 53 [.agg x.cells] (.seq 1 (strs x.rf))) : PCall Try.prog 97 [.seq 11 (Ex.cellss l)] (.seq 1 (strs (Ex.rfs l []))) := by
  have hl1 := Ex.cellss_len l
  refine ACall.enter Try.func97 rfl (by kernel_rfl) rfl (Nat.le_of_ble_eq_true rfl) ?_
  refine c_start ?_
  refine c_lens (t := 0) rfl (.seq _ _) (fun hmax => ?_)
  refine c_seq ?_
  refine c_region ?_
  refine AOps.st 2 rfl rfl rfl (op_assign rfl rfl ?_)
  refine AOps.nil ?_
  refine go_code ?_
  refine c_seq ?_
  refine c_region ?_
  refine AOps.st 3 rfl rfl rfl (op_assign rfl rfl ?_)
  refine AOps.nil ?_
  refine go_code ?_
  refine c_seq ?_
  refine c_seq ?_
  refine c_region ?_
  refine AOps.st 4 rfl rfl rfl (op_assign rfl rfl ?_)
  refine AOps.nil ?_
  refine go_code ?_
  refine c_block ?_
  refine c_loop (σ := Nat × List Txt) (fun zz => match zz with | (i, o) => [(0, .seq 11 (Ex.cellss l)), (3, .seq 1 (strs o)), (4, .val (.int .i64 i))]) (fun zz => match zz with | (i, o) => []) (fun zz => match zz with | (i, o) => i ≤ l.length ∧ o = Ex.rfs (l.take i) []) (fun zz => match zz with | (i, o) => l.length - i) ((0, [])) ?_ ?_ ?_ ?_
  · exact ⟨by omega, by simp [Ex.rfs]⟩
  · exact (by repeat' (first | exact SLe.nil _ | refine SLe.cons rfl ?_ ?_ | exact Le.refl _ | exact Le.own _ _ _ | exact Le.nil _))
  · exact (by first | exact MLe.none _ | exact MLe.refl _ | (repeat' (first | exact MLe.nil | exact MLe.refl _ | refine MLe.cons _ ?_ | refine MLe.drop _ ?_)))
  rintro ⟨i, o⟩ hI
  try dsimp only at hI ⊢
  obtain ⟨hi, ho⟩ := hI
  refine c_seq ?_
  refine c_seq ?_
  refine c_region ?_
  refine AOps.st 5 rfl rfl rfl (op_move rfl rfl ?_)
  refine AOps.st 6 rfl rfl rfl (op_move rfl rfl ?_)
  first | (refine AOps.st 7 rfl rfl rfl (op_len rfl tu_56 rfl (.seq _ _) (fun n7 => ?_))) | (refine AOps.st 7 rfl rfl rfl (op_len rfl tu_56 rfl (.own _ _ _) (fun n7 => ?_))) | (refine AOps.st 7 rfl rfl rfl (op_len rfl tu_56 rfl (.nil 0) (fun n7 => ?_))) | (refine AOps.st 7 rfl rfl rfl (op_len_arr rfl tu_56 rfl ?_))
  refine AOps.st 8 rfl rfl rfl (op_lss rfl rfl rfl ?_); intro c8 h8
  refine AOps.nil ?_
  refine go_code ?_
  rcases bool_split h8 with ⟨rfl, g8⟩ | ⟨rfl, g8⟩
  · refine c_cond_f rfl ?_
    refine c_exit ?_
    refine x_code ?_
    refine x_lp ?_
    refine x_here ?_
    refine go_code ?_
    refine c_seq ?_
    refine c_region ?_
    refine AOps.st 18 rfl rfl rfl (op_move rfl rfl ?_)
    refine AOps.st 2 rfl rfl rfl (op_assign rfl rfl ?_)
    refine AOps.nil ?_
    refine go_code ?_
    refine c_ret ?_
    refine out_tmp rfl rfl (Le.seq_eq ?_) (by first | exact MLe.none _ | exact MLe.refl _ | (repeat' (first | exact MLe.nil | exact MLe.refl _ | refine MLe.cons _ ?_ | refine MLe.drop _ ?_))) ⟨rfl, rfl⟩
    rw [ho, List.take_of_length_le (by omega)]
  · refine c_cond_t rfl ?_
    refine c_skip ?_
    refine go_code ?_
    refine c_seq ?_
    refine c_block ?_
    obtain ⟨⟨yk, yt, yn, ⟨ytk, yts, ytn, ytks⟩, yks, yal, ybs, yp⟩, hx⟩ := get_some (l := l) (i := i) (by omega)
    have hcx := Ex.cellss_get hx
    have hIH := H _ (List.mem_of_getElem? hx)
    have e := Ex.rfs_take (out := []) hx
    have l1 := Ex.rfs_len (l.take i) []
    have l2 := Ex.rf_len ⟨yk, yt, yn, ⟨ytk, yts, ytn, ytks⟩, yks, yal, ybs, yp⟩
    have l3 := (sum_at Ex.w hx).1
    rw [← Ex.ws_map, ← Ex.ws_map] at l3
    rw [← ho] at l1 e
    generalize Ex.rf ⟨yk, yt, yn, ⟨ytk, yts, ytn, ytks⟩, yks, yal, ybs, yp⟩ = r at *
    simp only [List.length_nil] at l1
    have HJ := (Join_c o r (by omega)).pure
    refine c_region ?_
    refine AOps.st 11 rfl rfl rfl (op_move rfl rfl ?_)
    refine AOps.st 12 rfl rfl rfl (op_move rfl rfl ?_)
    refine AOps.st 13 rfl rfl rfl (op_move rfl rfl ?_)
    first | (refine AOps.st 14 rfl rfl rfl (op_index rfl te_56 rfl (.seq _ _) rfl rfl (by assumption) ?_)) | (refine AOps.st 14 rfl rfl rfl (op_index (i := 0) rfl te_56 rfl (.seq _ _) rfl rfl (by first | rfl | assumption) ?_)) | (refine AOps.st 14 rfl rfl rfl (op_index (i := 1) rfl te_56 rfl (.seq _ _) rfl rfl (by first | rfl | assumption) ?_)) | (refine AOps.st 14 rfl rfl rfl (op_index rfl te_56 rfl (.own _ _ _) rfl rfl (by assumption) ?_)) | (refine AOps.st 14 rfl rfl rfl (op_index (i := 0) rfl te_56 rfl (.own _ _ _) rfl rfl (by first | rfl | assumption) ?_)) | (refine AOps.st 14 rfl rfl rfl (op_index (i := 1) rfl te_56 rfl (.own _ _ _) rfl rfl (by first | rfl | assumption) ?_)) | (refine AOps.st 14 rfl rfl rfl (op_index_arr rfl te_56 rfl rfl rfl (by omega) ?_))
    first | (refine AOps.st 15 rfl rfl rfl (op_load_m (cs' := [_, _, _, _, _, _, _, _, _, _, _]) (i := 0) rfl ta_60 rfl rfl rfl rfl ?_)) | (refine AOps.st 15 rfl rfl rfl (op_load_m (cs' := [_, _, _, _, _, _, _, _, _, _, _]) (i := 1) rfl ta_60 rfl rfl rfl rfl ?_)) | (refine AOps.st 15 rfl rfl rfl (op_load_m (cs' := [_, _, _, _, _, _, _, _, _, _, _]) (i := 2) rfl ta_60 rfl rfl rfl rfl ?_)) | (refine AOps.st 15 rfl rfl rfl (op_load_m (cs' := [_, _, _, _, _, _, _, _, _, _, _]) (i := 3) rfl ta_60 rfl rfl rfl rfl ?_)) | (refine AOps.st 15 rfl rfl rfl (op_load_m (cs' := [_, _, _, _, _, _, _, _, _, _, _]) (i := 4) rfl ta_60 rfl rfl rfl rfl ?_)) | (refine AOps.st 15 rfl rfl rfl (op_load_m (cs' := [_, _, _, _, _, _, _, _, _, _, _]) (i := 5) rfl ta_60 rfl rfl rfl rfl ?_)) | (refine AOps.st 15 rfl rfl rfl (op_load_c (cs' := [_, _, _, _, _, _, _, _, _, _, _]) rfl ta_60 rfl rfl rfl ?_))
    refine AOps.st 16 rfl rfl rfl (op_callp (xs := [.tmp 15]) rfl rfl (hIH) (by first | exact Les.refl _ | (repeat' (first | exact Les.refl _ | refine Les.cons ?_ ?_ | exact Le.refl _ | exact Le.own _ _ _ | exact Le.nil _ | refine Le.agg ?_))) ?_)
    refine AOps.st 17 rfl rfl rfl (op_callp (xs := [.tmp 11, .tmp 16]) rfl rfl (HJ) (by first | exact Les.refl _ | (repeat' (first | exact Les.refl _ | refine Les.cons ?_ ?_ | exact Le.refl _ | exact Le.own _ _ _ | exact Le.nil _ | refine Le.agg ?_))) ?_)
    refine AOps.st 3 rfl rfl rfl (op_assign rfl rfl ?_)
    refine AOps.nil ?_
    refine go_blk ?_
    refine go_code ?_
    refine c_region ?_
    refine AOps.st 9 rfl rfl rfl (op_move rfl rfl ?_)
    first | (refine AOps.st 10 rfl rfl rfl (op_add rfl rfl rfl (IntWalk.i64_in _ (by omega)) ?_)) | (refine AOps.st 10 rfl rfl rfl (op_add rfl rfl rfl rfl ?_))
    refine AOps.st 4 rfl rfl rfl (op_assign rfl rfl ?_)
    refine AOps.nil ?_
    refine go_lp ?_
    exact ⟨(i + 1, jn o r), ⟨by omega, e.symm⟩, by simp; omega, (by repeat' (first | exact SLe.nil _ | refine SLe.cons rfl ?_ ?_ | exact Le.refl _ | exact Le.own _ _ _ | exact Le.nil _)), (by first | exact MLe.none _ | exact MLe.refl _ | (repeat' (first | exact MLe.nil | exact MLe.refl _ | refine MLe.cons _ ?_ | refine MLe.drop _ ?_)))⟩
end Go.Proofs.Ytjgjnheeohfmmaa
