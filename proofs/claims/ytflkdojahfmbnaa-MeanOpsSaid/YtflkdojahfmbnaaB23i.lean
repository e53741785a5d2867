/- The example; the law of operations on numbers. -/
import Derived.Test.YtflkdojahfmbnaaB23h
namespace Go.Proofs.Ytflkdojahfmbnaa
open Go.RowKit
def kA : ByteArray := ⟨#[97]⟩
def kX : ByteArray := ⟨#[120]⟩
set_option maxHeartbeats 4000000 in
set_option maxRecDepth 100000 in
theorem awake_c : PCall Try.prog 4 [] (.val (.bool true)) := by
  have HR := Run_c kX kA
  unfold bdC putE exC nilA at *
  simp only [List.cons_append, List.nil_append] at *
  refine ACall.enter Try.func4 rfl (by kernel_rfl) rfl (Nat.le_of_ble_eq_true rfl) ?_
  refine c_start ?_
  refine c_seq ?_
  refine c_region ?_
  refine AOps.st 0 rfl rfl rfl (op_assign rfl rfl ?_)
  refine AOps.nil ?_
  refine go_code ?_
  refine c_seq ?_
  refine c_region ?_
  refine AOps.st 3 rfl rfl rfl (op_build (ns := [0, 1]) (xs := [.const (.int .i64 3), .const (.string ⟨#[97]⟩)]) (cs' := [_, _, _, _, _, _, _, _, _, _, _]) rfl tz_36 rfl tfl_36 rfl rfl rfl rfl ?_)
  refine AOps.st 4 rfl rfl rfl (op_buildSlice (xs := [.tmp 3]) el_32 rfl rfl rfl rfl rfl rfl (Nat.le_of_ble_eq_true rfl) ?_)
  refine AOps.st 5 rfl rfl rfl (op_build (ns := [0, 2, 5]) (xs := [.const (.int .i64 9), .const (.int .i64 13), .tmp 4]) (cs' := [_, _, _, _, _, _, _, _, _, _, _]) rfl tz_36 rfl tfl_36 rfl rfl rfl rfl ?_)
  refine AOps.st 1 rfl rfl rfl (op_alloce (cs' := [_, _, _, _, _, _, _, _, _, _, _]) rfl tz_36 rfl rfl ?_); intro b1
  first | (refine AOps.st0 rfl rfl (op_store (cs' := [_, _, _, _, _, _, _, _, _, _, _]) (i := 0) rfl ts_36 rfl rfl rfl rfl rfl (Nat.le_of_ble_eq_true rfl) rfl ?_)) | (refine AOps.st0 rfl rfl (op_store (cs' := [_, _, _, _, _, _, _, _, _, _, _]) (i := 1) rfl ts_36 rfl rfl rfl rfl rfl (Nat.le_of_ble_eq_true rfl) rfl ?_)) | (refine AOps.st0 rfl rfl (op_store (cs' := [_, _, _, _, _, _, _, _, _, _, _]) (i := 2) rfl ts_36 rfl rfl rfl rfl rfl (Nat.le_of_ble_eq_true rfl) rfl ?_)) | (refine AOps.st0 rfl rfl (op_store (cs' := [_, _, _, _, _, _, _, _, _, _, _]) (i := 3) rfl ts_36 rfl rfl rfl rfl rfl (Nat.le_of_ble_eq_true rfl) rfl ?_)) | (refine AOps.st0 rfl rfl (op_store (cs' := [_, _, _, _, _, _, _, _, _, _, _]) (i := 4) rfl ts_36 rfl rfl rfl rfl rfl (Nat.le_of_ble_eq_true rfl) rfl ?_)) | (refine AOps.st0 rfl rfl (op_store (cs' := [_, _, _, _, _, _, _, _, _, _, _]) (i := 5) rfl ts_36 rfl rfl rfl rfl rfl (Nat.le_of_ble_eq_true rfl) rfl ?_)) | (refine AOps.st0 rfl rfl (op_store (cs' := [_, _, _, _, _, _, _, _, _, _, _]) (i := 6) rfl ts_36 rfl rfl rfl rfl rfl (Nat.le_of_ble_eq_true rfl) rfl ?_)) | (refine AOps.st0 rfl rfl (op_store (cs' := [_, _, _, _, _, _, _, _, _, _, _]) (i := 7) rfl ts_36 rfl rfl rfl rfl rfl (Nat.le_of_ble_eq_true rfl) rfl ?_)) | (refine AOps.st0 rfl rfl (op_store (cs' := [_, _, _, _, _, _, _, _, _, _, _]) (i := 8) rfl ts_36 rfl rfl rfl rfl rfl (Nat.le_of_ble_eq_true rfl) rfl ?_)) | (refine AOps.st0 rfl rfl (op_store (cs' := [_, _, _, _, _, _, _, _, _, _, _]) (i := 9) rfl ts_36 rfl rfl rfl rfl rfl (Nat.le_of_ble_eq_true rfl) rfl ?_))
  refine AOps.nil ?_
  refine go_code ?_
  refine c_seq ?_
  refine c_region ?_
  first | (refine AOps.st 6 rfl rfl rfl (op_load_m (cs' := [_, _, _, _, _, _, _, _, _, _, _]) (i := 0) rfl ta_36 rfl rfl rfl rfl ?_)) | (refine AOps.st 6 rfl rfl rfl (op_load_m (cs' := [_, _, _, _, _, _, _, _, _, _, _]) (i := 1) rfl ta_36 rfl rfl rfl rfl ?_)) | (refine AOps.st 6 rfl rfl rfl (op_load_m (cs' := [_, _, _, _, _, _, _, _, _, _, _]) (i := 2) rfl ta_36 rfl rfl rfl rfl ?_)) | (refine AOps.st 6 rfl rfl rfl (op_load_m (cs' := [_, _, _, _, _, _, _, _, _, _, _]) (i := 3) rfl ta_36 rfl rfl rfl rfl ?_)) | (refine AOps.st 6 rfl rfl rfl (op_load_m (cs' := [_, _, _, _, _, _, _, _, _, _, _]) (i := 4) rfl ta_36 rfl rfl rfl rfl ?_)) | (refine AOps.st 6 rfl rfl rfl (op_load_m (cs' := [_, _, _, _, _, _, _, _, _, _, _]) (i := 5) rfl ta_36 rfl rfl rfl rfl ?_)) | (refine AOps.st 6 rfl rfl rfl (op_load_m (cs' := [_, _, _, _, _, _, _, _, _, _, _]) (i := 6) rfl ta_36 rfl rfl rfl rfl ?_)) | (refine AOps.st 6 rfl rfl rfl (op_load_m (cs' := [_, _, _, _, _, _, _, _, _, _, _]) (i := 7) rfl ta_36 rfl rfl rfl rfl ?_)) | (refine AOps.st 6 rfl rfl rfl (op_load_m (cs' := [_, _, _, _, _, _, _, _, _, _, _]) (i := 8) rfl ta_36 rfl rfl rfl rfl ?_)) | (refine AOps.st 6 rfl rfl rfl (op_load_m (cs' := [_, _, _, _, _, _, _, _, _, _, _]) (i := 9) rfl ta_36 rfl rfl rfl rfl ?_)) | (refine AOps.st 6 rfl rfl rfl (op_load_c (cs' := [_, _, _, _, _, _, _, _, _, _, _]) rfl ta_36 rfl rfl rfl ?_))
  refine AOps.st 7 rfl rfl rfl (op_build (ns := [0, 3]) (xs := [.const (.string ⟨#[120]⟩), .tmp 6]) (cs' := [_, _, _, _, _, _, _, _, _, _, _, _, _, _, _, _, _]) rfl tz_42 rfl tfl_42 rfl rfl rfl rfl ?_)
  refine AOps.st 8 rfl rfl rfl (op_buildSlice (xs := [.tmp 7]) el_34 rfl rfl rfl rfl rfl rfl (Nat.le_of_ble_eq_true rfl) ?_)
  refine AOps.st 9 rfl rfl rfl (op_build (ns := [0]) (xs := [.tmp 8]) (cs' := [_]) rfl tz_44 rfl tfl_44 rfl rfl rfl rfl ?_)
  refine AOps.st 10 rfl rfl rfl (op_callp (xs := [.tmp 9, .const (.slice none 0 0), .const (.int .i64 9)]) rfl rfl (HR) (by first | exact Les.refl _ | (repeat' (first | exact Les.refl _ | refine Les.cons ?_ ?_ | exact Le.refl _ | exact Le.own _ _ _ | exact Le.nil _ | refine Le.agg ?_))) ?_)
  refine AOps.st 2 rfl rfl rfl (op_alloce (cs' := [_, _, _]) rfl tz_39 rfl rfl ?_); intro b2
  first | (refine AOps.st0 rfl rfl (op_store (cs' := [_, _, _]) (i := 0) rfl ts_39 rfl rfl rfl rfl rfl (Nat.le_of_ble_eq_true rfl) rfl ?_)) | (refine AOps.st0 rfl rfl (op_store (cs' := [_, _, _]) (i := 1) rfl ts_39 rfl rfl rfl rfl rfl (Nat.le_of_ble_eq_true rfl) rfl ?_)) | (refine AOps.st0 rfl rfl (op_store (cs' := [_, _, _]) (i := 2) rfl ts_39 rfl rfl rfl rfl rfl (Nat.le_of_ble_eq_true rfl) rfl ?_)) | (refine AOps.st0 rfl rfl (op_store (cs' := [_, _, _]) (i := 3) rfl ts_39 rfl rfl rfl rfl rfl (Nat.le_of_ble_eq_true rfl) rfl ?_)) | (refine AOps.st0 rfl rfl (op_store (cs' := [_, _, _]) (i := 4) rfl ts_39 rfl rfl rfl rfl rfl (Nat.le_of_ble_eq_true rfl) rfl ?_)) | (refine AOps.st0 rfl rfl (op_store (cs' := [_, _, _]) (i := 5) rfl ts_39 rfl rfl rfl rfl rfl (Nat.le_of_ble_eq_true rfl) rfl ?_)) | (refine AOps.st0 rfl rfl (op_store (cs' := [_, _, _]) (i := 6) rfl ts_39 rfl rfl rfl rfl rfl (Nat.le_of_ble_eq_true rfl) rfl ?_)) | (refine AOps.st0 rfl rfl (op_store (cs' := [_, _, _]) (i := 7) rfl ts_39 rfl rfl rfl rfl rfl (Nat.le_of_ble_eq_true rfl) rfl ?_)) | (refine AOps.st0 rfl rfl (op_store (cs' := [_, _, _]) (i := 8) rfl ts_39 rfl rfl rfl rfl rfl (Nat.le_of_ble_eq_true rfl) rfl ?_)) | (refine AOps.st0 rfl rfl (op_store (cs' := [_, _, _]) (i := 9) rfl ts_39 rfl rfl rfl rfl rfl (Nat.le_of_ble_eq_true rfl) rfl ?_))
  refine AOps.nil ?_
  refine go_code ?_
  refine c_seq ?_
  refine c_region ?_
  first | (refine AOps.st 11 rfl rfl rfl (op_fieldAddr_m rfl tf_39_1 rfl ?_)) | (refine AOps.st 11 rfl rfl rfl (op_fieldAddr_c rfl tf_39_1 rfl rfl ?_))
  first | (refine AOps.st 12 rfl rfl rfl (op_load_m1 (i := 0) rfl ta_23 rfl rfl rfl ?_)) | (refine AOps.st 12 rfl rfl rfl (op_load_m1 (i := 1) rfl ta_23 rfl rfl rfl ?_)) | (refine AOps.st 12 rfl rfl rfl (op_load_m1 (i := 2) rfl ta_23 rfl rfl rfl ?_)) | (refine AOps.st 12 rfl rfl rfl (op_load_m1 (i := 3) rfl ta_23 rfl rfl rfl ?_)) | (refine AOps.st 12 rfl rfl rfl (op_load_m1 (i := 4) rfl ta_23 rfl rfl rfl ?_)) | (refine AOps.st 12 rfl rfl rfl (op_load_m1 (i := 5) rfl ta_23 rfl rfl rfl ?_)) | (refine AOps.st 12 rfl rfl rfl (op_load_m1 (i := 6) rfl ta_23 rfl rfl rfl ?_)) | (refine AOps.st 12 rfl rfl rfl (op_load_m1 (i := 7) rfl ta_23 rfl rfl rfl ?_)) | (refine AOps.st 12 rfl rfl rfl (op_load_m1 (i := 8) rfl ta_23 rfl rfl rfl ?_)) | (refine AOps.st 12 rfl rfl rfl (op_load_m1 (i := 9) rfl ta_23 rfl rfl rfl ?_)) | (refine AOps.st 12 rfl rfl rfl (op_load_c1 rfl ta_23 rfl rfl ?_))
  refine AOps.st 13 rfl rfl rfl (op_eql rfl rfl rfl ?_); intro c13 h13
  refine AOps.st 14 rfl rfl rfl (op_move rfl rfl ?_)
  rcases bool_split h13 with ⟨rfl, g13⟩ | ⟨rfl, g13⟩
  · exact absurd rfl g13
  · skip
    first | (refine AOps.gt 15 rfl rfl rfl rfl rfl (op_fieldAddr_m rfl tf_39_2 rfl ?_)) | (refine AOps.gt 15 rfl rfl rfl rfl rfl (op_fieldAddr_c rfl tf_39_2 rfl rfl ?_))
    first | (refine AOps.gt 16 rfl rfl rfl rfl rfl (op_load_m1 (i := 0) rfl ta_3 rfl rfl rfl ?_)) | (refine AOps.gt 16 rfl rfl rfl rfl rfl (op_load_m1 (i := 1) rfl ta_3 rfl rfl rfl ?_)) | (refine AOps.gt 16 rfl rfl rfl rfl rfl (op_load_m1 (i := 2) rfl ta_3 rfl rfl rfl ?_)) | (refine AOps.gt 16 rfl rfl rfl rfl rfl (op_load_m1 (i := 3) rfl ta_3 rfl rfl rfl ?_)) | (refine AOps.gt 16 rfl rfl rfl rfl rfl (op_load_m1 (i := 4) rfl ta_3 rfl rfl rfl ?_)) | (refine AOps.gt 16 rfl rfl rfl rfl rfl (op_load_m1 (i := 5) rfl ta_3 rfl rfl rfl ?_)) | (refine AOps.gt 16 rfl rfl rfl rfl rfl (op_load_m1 (i := 6) rfl ta_3 rfl rfl rfl ?_)) | (refine AOps.gt 16 rfl rfl rfl rfl rfl (op_load_m1 (i := 7) rfl ta_3 rfl rfl rfl ?_)) | (refine AOps.gt 16 rfl rfl rfl rfl rfl (op_load_m1 (i := 8) rfl ta_3 rfl rfl rfl ?_)) | (refine AOps.gt 16 rfl rfl rfl rfl rfl (op_load_m1 (i := 9) rfl ta_3 rfl rfl rfl ?_)) | (refine AOps.gt 16 rfl rfl rfl rfl rfl (op_load_c1 rfl ta_3 rfl rfl ?_))
    refine AOps.gt 17 rfl rfl rfl rfl rfl (op_eql rfl rfl rfl ?_); intro c17 h17
    refine AOps.st 18 rfl rfl rfl (op_pick rfl rfl rfl ?_)
    refine AOps.st 19 rfl rfl rfl (op_move rfl rfl ?_)
    rcases bool_split h17 with ⟨rfl, g17⟩ | ⟨rfl, g17⟩
    · exact absurd rfl g17
    · skip
      first | (refine AOps.gt 20 rfl rfl rfl rfl rfl (op_fieldAddr_m rfl tf_39_0 rfl ?_)) | (refine AOps.gt 20 rfl rfl rfl rfl rfl (op_fieldAddr_c rfl tf_39_0 rfl rfl ?_))
      first | (refine AOps.gt 21 rfl rfl rfl rfl rfl (op_load_m1 (i := 0) rfl ta_37 rfl rfl rfl ?_)) | (refine AOps.gt 21 rfl rfl rfl rfl rfl (op_load_m1 (i := 1) rfl ta_37 rfl rfl rfl ?_)) | (refine AOps.gt 21 rfl rfl rfl rfl rfl (op_load_m1 (i := 2) rfl ta_37 rfl rfl rfl ?_)) | (refine AOps.gt 21 rfl rfl rfl rfl rfl (op_load_m1 (i := 3) rfl ta_37 rfl rfl rfl ?_)) | (refine AOps.gt 21 rfl rfl rfl rfl rfl (op_load_m1 (i := 4) rfl ta_37 rfl rfl rfl ?_)) | (refine AOps.gt 21 rfl rfl rfl rfl rfl (op_load_m1 (i := 5) rfl ta_37 rfl rfl rfl ?_)) | (refine AOps.gt 21 rfl rfl rfl rfl rfl (op_load_m1 (i := 6) rfl ta_37 rfl rfl rfl ?_)) | (refine AOps.gt 21 rfl rfl rfl rfl rfl (op_load_m1 (i := 7) rfl ta_37 rfl rfl rfl ?_)) | (refine AOps.gt 21 rfl rfl rfl rfl rfl (op_load_m1 (i := 8) rfl ta_37 rfl rfl rfl ?_)) | (refine AOps.gt 21 rfl rfl rfl rfl rfl (op_load_m1 (i := 9) rfl ta_37 rfl rfl rfl ?_)) | (refine AOps.gt 21 rfl rfl rfl rfl rfl (op_load_c1 rfl ta_37 rfl rfl ?_))
      first | (refine AOps.gt 22 rfl rfl rfl rfl rfl (op_len rfl tu_37 rfl (.seq _ _) (fun n22 => ?_))) | (refine AOps.gt 22 rfl rfl rfl rfl rfl (op_len rfl tu_37 rfl (.own _ _ _) (fun n22 => ?_))) | (refine AOps.gt 22 rfl rfl rfl rfl rfl (op_len rfl tu_37 rfl (.nil 0) (fun n22 => ?_))) | (refine AOps.gt 22 rfl rfl rfl rfl rfl (op_len_arr rfl tu_37 rfl ?_))
      refine AOps.gt 23 rfl rfl rfl rfl rfl (op_eql rfl rfl rfl ?_); intro c23 h23
      refine AOps.st 24 rfl rfl rfl (op_pick rfl rfl rfl ?_)
      refine AOps.st 25 rfl rfl rfl (op_move rfl rfl ?_)
      rcases bool_split h23 with ⟨rfl, g23⟩ | ⟨rfl, g23⟩
      · exact absurd rfl g23
      · skip
        first | (refine AOps.gt 26 rfl rfl rfl rfl rfl (op_fieldAddr_m rfl tf_39_0 rfl ?_)) | (refine AOps.gt 26 rfl rfl rfl rfl rfl (op_fieldAddr_c rfl tf_39_0 rfl rfl ?_))
        first | (refine AOps.gt 27 rfl rfl rfl rfl rfl (op_load_m1 (i := 0) rfl ta_37 rfl rfl rfl ?_)) | (refine AOps.gt 27 rfl rfl rfl rfl rfl (op_load_m1 (i := 1) rfl ta_37 rfl rfl rfl ?_)) | (refine AOps.gt 27 rfl rfl rfl rfl rfl (op_load_m1 (i := 2) rfl ta_37 rfl rfl rfl ?_)) | (refine AOps.gt 27 rfl rfl rfl rfl rfl (op_load_m1 (i := 3) rfl ta_37 rfl rfl rfl ?_)) | (refine AOps.gt 27 rfl rfl rfl rfl rfl (op_load_m1 (i := 4) rfl ta_37 rfl rfl rfl ?_)) | (refine AOps.gt 27 rfl rfl rfl rfl rfl (op_load_m1 (i := 5) rfl ta_37 rfl rfl rfl ?_)) | (refine AOps.gt 27 rfl rfl rfl rfl rfl (op_load_m1 (i := 6) rfl ta_37 rfl rfl rfl ?_)) | (refine AOps.gt 27 rfl rfl rfl rfl rfl (op_load_m1 (i := 7) rfl ta_37 rfl rfl rfl ?_)) | (refine AOps.gt 27 rfl rfl rfl rfl rfl (op_load_m1 (i := 8) rfl ta_37 rfl rfl rfl ?_)) | (refine AOps.gt 27 rfl rfl rfl rfl rfl (op_load_m1 (i := 9) rfl ta_37 rfl rfl rfl ?_)) | (refine AOps.gt 27 rfl rfl rfl rfl rfl (op_load_c1 rfl ta_37 rfl rfl ?_))
        first | (refine AOps.gt 28 rfl rfl rfl rfl rfl (op_index rfl te_37 rfl (.seq _ _) rfl rfl (by assumption) ?_)) | (refine AOps.gt 28 rfl rfl rfl rfl rfl (op_index (i := 0) rfl te_37 rfl (.seq _ _) rfl rfl (by first | rfl | assumption) ?_)) | (refine AOps.gt 28 rfl rfl rfl rfl rfl (op_index (i := 1) rfl te_37 rfl (.seq _ _) rfl rfl (by first | rfl | assumption) ?_)) | (refine AOps.gt 28 rfl rfl rfl rfl rfl (op_index rfl te_37 rfl (.own _ _ _) rfl rfl (by assumption) ?_)) | (refine AOps.gt 28 rfl rfl rfl rfl rfl (op_index (i := 0) rfl te_37 rfl (.own _ _ _) rfl rfl (by first | rfl | assumption) ?_)) | (refine AOps.gt 28 rfl rfl rfl rfl rfl (op_index (i := 1) rfl te_37 rfl (.own _ _ _) rfl rfl (by first | rfl | assumption) ?_)) | (refine AOps.gt 28 rfl rfl rfl rfl rfl (op_index_arr rfl te_37 rfl rfl rfl (by omega) ?_))
        first | (refine AOps.gt 29 rfl rfl rfl rfl rfl (op_load_m1 (i := 0) rfl ta_9 rfl rfl rfl ?_)) | (refine AOps.gt 29 rfl rfl rfl rfl rfl (op_load_m1 (i := 1) rfl ta_9 rfl rfl rfl ?_)) | (refine AOps.gt 29 rfl rfl rfl rfl rfl (op_load_m1 (i := 2) rfl ta_9 rfl rfl rfl ?_)) | (refine AOps.gt 29 rfl rfl rfl rfl rfl (op_load_m1 (i := 3) rfl ta_9 rfl rfl rfl ?_)) | (refine AOps.gt 29 rfl rfl rfl rfl rfl (op_load_m1 (i := 4) rfl ta_9 rfl rfl rfl ?_)) | (refine AOps.gt 29 rfl rfl rfl rfl rfl (op_load_m1 (i := 5) rfl ta_9 rfl rfl rfl ?_)) | (refine AOps.gt 29 rfl rfl rfl rfl rfl (op_load_m1 (i := 6) rfl ta_9 rfl rfl rfl ?_)) | (refine AOps.gt 29 rfl rfl rfl rfl rfl (op_load_m1 (i := 7) rfl ta_9 rfl rfl rfl ?_)) | (refine AOps.gt 29 rfl rfl rfl rfl rfl (op_load_m1 (i := 8) rfl ta_9 rfl rfl rfl ?_)) | (refine AOps.gt 29 rfl rfl rfl rfl rfl (op_load_m1 (i := 9) rfl ta_9 rfl rfl rfl ?_)) | (refine AOps.gt 29 rfl rfl rfl rfl rfl (op_load_c1 rfl ta_9 rfl rfl ?_))
        refine AOps.gt 30 rfl rfl rfl rfl rfl (op_seql rfl rfl rfl ?_); intro c30 h30
        refine AOps.st 31 rfl rfl rfl (op_pick rfl rfl rfl ?_)
        refine AOps.st 0 rfl rfl rfl (op_assign rfl rfl ?_)
        refine AOps.nil ?_
        refine go_code ?_
        refine c_ret ?_
        obtain rfl : c30 = true := h30.2 rfl
        exact out_tmp rfl rfl (Le.refl _) (by first | exact MLe.none _ | exact MLe.refl _ | (repeat' (first | exact MLe.nil | exact MLe.refl _ | refine MLe.cons _ ?_ | refine MLe.drop _ ?_))) ⟨rfl, rfl⟩
theorem opE_one (op b : Int) (h : ¬ opE op b = 0) : opE op b = 1 := by
  unfold opE at *
  split at h <;> rename_i k
  · rw [if_pos k]
    split at h <;> rename_i k2
    · exact absurd rfl h
    · rw [if_neg k2]
  · exact absurd rfl h
theorem opN_nil (op a b : Int) (h : ¬ opE op b = 0) : opN op a b = 0 := by
  unfold opE at h
  split at h <;> rename_i k
  · split at h <;> rename_i k2
    · exact absurd rfl h
    · have hz := quo_zero (a := a) k2
      rcases k with rfl | rfl
      · exact hz.1
      · exact hz.2
  · exact absurd rfl h
set_option maxHeartbeats 4000000 in
set_option maxRecDepth 100000 in
theorem MeanOps_c (op a b : Int) : PCall Try.prog 3 [.val (.int .i64 op), .val (.int .i64 a), .val (.int .i64 b)] (.val (.bool true)) := by
  have HA := awake_c
  have H1 := Op_c op a b
  have H2 := rOp_c op a b
  have hE := opE_one op b
  have hN := opN_nil op a b
  generalize opE op b = e at *
  generalize opN op a b = n at *
  refine ACall.enter Try.func3 rfl (by kernel_rfl) rfl (Nat.le_of_ble_eq_true rfl) ?_
  refine c_start ?_
  refine c_seq ?_
  refine c_region ?_
  refine AOps.st 6 rfl rfl rfl (op_assign rfl rfl ?_)
  refine AOps.nil ?_
  refine go_code ?_
  refine c_seq ?_
  refine c_seq ?_
  refine c_region ?_
  refine AOps.st 11 rfl rfl rfl (op_callp (xs := []) rfl rfl (HA) (by first | exact Les.refl _ | (repeat' (first | exact Les.refl _ | refine Les.cons ?_ ?_ | exact Le.refl _ | exact Le.own _ _ _ | exact Le.nil _ | refine Le.agg ?_))) ?_)
  refine AOps.st 12 rfl rfl rfl (op_notc rfl rfl ?_); intro c12 h12
  try replace h12 := nott h12 h11
  refine AOps.nil ?_
  refine go_code ?_
  rcases bool_split h12 with ⟨rfl, g12⟩ | ⟨rfl, g12⟩
  · refine c_cond_f rfl ?_
    refine c_skip ?_
    refine go_code ?_
    refine c_seq ?_
    refine c_region ?_
    refine AOps.st 14 rfl rfl rfl (op_move rfl rfl ?_)
    refine AOps.st 15 rfl rfl rfl (op_move rfl rfl ?_)
    refine AOps.st 16 rfl rfl rfl (op_move rfl rfl ?_)
    refine AOps.st 17 rfl rfl rfl (op_callp (xs := [.tmp 14, .tmp 15, .tmp 16]) rfl rfl (H1) (by first | exact Les.refl _ | (repeat' (first | exact Les.refl _ | refine Les.cons ?_ ?_ | exact Le.refl _ | exact Le.own _ _ _ | exact Le.nil _ | refine Le.agg ?_))) ?_)
    refine AOps.st 13 rfl rfl rfl (op_move rfl rfl ?_)
    refine AOps.st 18 rfl rfl rfl (op_extract rfl rfl rfl ?_)
    refine AOps.st 19 rfl rfl rfl (op_extract rfl rfl rfl ?_)
    refine AOps.st 7 rfl rfl rfl (op_assign rfl rfl ?_)
    refine AOps.st 8 rfl rfl rfl (op_assign rfl rfl ?_)
    refine AOps.nil ?_
    refine go_code ?_
    refine c_seq ?_
    refine c_region ?_
    refine AOps.st 21 rfl rfl rfl (op_move rfl rfl ?_)
    refine AOps.st 22 rfl rfl rfl (op_move rfl rfl ?_)
    refine AOps.st 23 rfl rfl rfl (op_move rfl rfl ?_)
    refine AOps.st 24 rfl rfl rfl (op_callp (xs := [.tmp 21, .tmp 22, .tmp 23]) rfl rfl (H2) (by first | exact Les.refl _ | (repeat' (first | exact Les.refl _ | refine Les.cons ?_ ?_ | exact Le.refl _ | exact Le.own _ _ _ | exact Le.nil _ | refine Le.agg ?_))) ?_)
    refine AOps.st 20 rfl rfl rfl (op_move rfl rfl ?_)
    refine AOps.st 25 rfl rfl rfl (op_extract rfl rfl rfl ?_)
    refine AOps.st 26 rfl rfl rfl (op_extract rfl rfl rfl ?_)
    refine AOps.st 9 rfl rfl rfl (op_assign rfl rfl ?_)
    refine AOps.st 10 rfl rfl rfl (op_assign rfl rfl ?_)
    refine AOps.nil ?_
    refine go_code ?_
    refine c_seq ?_
    refine c_seq ?_
    refine c_region ?_
    refine AOps.st 27 rfl rfl rfl (op_move rfl rfl ?_)
    refine AOps.st 28 rfl rfl rfl (op_notc rfl rfl ?_); intro c28 h28
    try replace h28 := nott h28 h26
    refine AOps.nil ?_
    refine go_code ?_
    rcases bool_split h28 with ⟨rfl, g28⟩ | ⟨rfl, g28⟩
    · refine c_cond_f rfl ?_
      refine c_skip ?_
      refine go_code ?_
      refine c_seq ?_
      refine c_bool 6 (True) ?_ _ _ rfl ?_
      · skip
        refine AOps.st 35 rfl rfl rfl (op_move rfl rfl ?_)
        refine AOps.st 36 rfl rfl rfl (op_move rfl rfl ?_)
        refine AOps.st 37 rfl rfl rfl (op_eql rfl rfl rfl ?_); intro c37 h37
        refine AOps.st 38 rfl rfl rfl (op_move rfl rfl ?_)
        rcases bool_split h37 with ⟨rfl, g37⟩ | ⟨rfl, g37⟩
        · skip
          refine AOps.gf 39 rfl rfl rfl rfl rfl ?_
          refine AOps.gf 40 rfl rfl rfl rfl rfl ?_
          refine AOps.st 41 rfl rfl rfl (op_pick rfl rfl rfl ?_)
          refine AOps.st 6 rfl rfl rfl (op_assign rfl rfl ?_)
          refine AOps.nil ?_
          refine BoolQ.mk rfl ?_ (by repeat' (first | exact SLe.wo _ _ | exact SLe.refl _ | refine SLe.fresh rfl ?_)) (by first | exact MLe.none _ | exact MLe.refl _ | (repeat' (first | exact MLe.nil | exact MLe.refl _ | refine MLe.cons _ ?_ | refine MLe.drop _ ?_)))
          clear HA H1 H2; first | (simp_all; done) | grind
        · skip
          refine AOps.gt 39 rfl rfl rfl rfl rfl (op_move rfl rfl ?_)
          refine AOps.gt 40 rfl rfl rfl rfl rfl (op_eql rfl rfl rfl ?_); intro c40 h40
          refine AOps.st 41 rfl rfl rfl (op_pick rfl rfl rfl ?_)
          refine AOps.st 6 rfl rfl rfl (op_assign rfl rfl ?_)
          refine AOps.nil ?_
          refine BoolQ.mk rfl ?_ (by repeat' (first | exact SLe.wo _ _ | exact SLe.refl _ | refine SLe.fresh rfl ?_)) (by first | exact MLe.none _ | exact MLe.refl _ | (repeat' (first | exact MLe.nil | exact MLe.refl _ | refine MLe.cons _ ?_ | refine MLe.drop _ ?_)))
          clear HA H1 H2; first | (simp_all; done) | grind
      intro c6 h6
      refine go_code ?_
      refine c_ret ?_
      obtain rfl : c6 = true := h6.2 trivial
      exact out_tmp rfl rfl (Le.refl _) (by first | exact MLe.none _ | exact MLe.refl _ | (repeat' (first | exact MLe.nil | exact MLe.refl _ | refine MLe.cons _ ?_ | refine MLe.drop _ ?_))) ⟨rfl, rfl⟩
    · refine c_cond_t rfl ?_
      refine c_seq ?_
      refine c_bool 6 (True) ?_ _ _ rfl ?_
      · skip
        refine AOps.st 29 rfl rfl rfl (op_move rfl rfl ?_)
        refine AOps.st 30 rfl rfl rfl (op_eql rfl rfl rfl ?_); intro c30 h30
        refine AOps.st 31 rfl rfl rfl (op_move rfl rfl ?_)
        rcases bool_split h30 with ⟨rfl, g30⟩ | ⟨rfl, g30⟩
        · skip
          refine AOps.gf 32 rfl rfl rfl rfl rfl ?_
          refine AOps.gf 33 rfl rfl rfl rfl rfl ?_
          refine AOps.st 34 rfl rfl rfl (op_pick rfl rfl rfl ?_)
          refine AOps.st 6 rfl rfl rfl (op_assign rfl rfl ?_)
          refine AOps.nil ?_
          refine BoolQ.mk rfl ?_ (by repeat' (first | exact SLe.wo _ _ | exact SLe.refl _ | refine SLe.fresh rfl ?_)) (by first | exact MLe.none _ | exact MLe.refl _ | (repeat' (first | exact MLe.nil | exact MLe.refl _ | refine MLe.cons _ ?_ | refine MLe.drop _ ?_)))
          clear HA H1 H2; first | (simp_all; done) | grind
        · skip
          refine AOps.gt 32 rfl rfl rfl rfl rfl (op_move rfl rfl ?_)
          refine AOps.gt 33 rfl rfl rfl rfl rfl (op_eql rfl rfl rfl ?_); intro c33 h33
          refine AOps.st 34 rfl rfl rfl (op_pick rfl rfl rfl ?_)
          refine AOps.st 6 rfl rfl rfl (op_assign rfl rfl ?_)
          refine AOps.nil ?_
          refine BoolQ.mk rfl ?_ (by repeat' (first | exact SLe.wo _ _ | exact SLe.refl _ | refine SLe.fresh rfl ?_)) (by first | exact MLe.none _ | exact MLe.refl _ | (repeat' (first | exact MLe.nil | exact MLe.refl _ | refine MLe.cons _ ?_ | refine MLe.drop _ ?_)))
          clear HA H1 H2; first | (simp_all; done) | grind
      intro c6 h6
      refine go_code ?_
      refine c_ret ?_
      obtain rfl : c6 = true := h6.2 trivial
      exact out_tmp rfl rfl (Le.refl _) (by first | exact MLe.none _ | exact MLe.refl _ | (repeat' (first | exact MLe.nil | exact MLe.refl _ | refine MLe.cons _ ?_ | refine MLe.drop _ ?_))) ⟨rfl, rfl⟩
  · first | exact absurd g12 (by decide) | simp_all
end Go.Proofs.Ytflkdojahfmbnaa
