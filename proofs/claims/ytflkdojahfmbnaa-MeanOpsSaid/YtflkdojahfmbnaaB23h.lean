/- The run of the example's program. -/
import Derived.Test.YtflkdojahfmbnaaB23g
namespace Go.Proofs.Ytflkdojahfmbnaa
open Go.RowKit
theorem tm_59 : Try.prog.underlying 59 = some (.map 9 62) := by kernel_rfl
/-- a bind of an expression -/
def bdC (nm : ByteArray) (e : List AV) : List AV := [.val (.string nm), nilA, .val (.int .i64 0), .val (.string ⟨#[]⟩), .val (.int .i64 0), nilA] ++ e
set_option maxHeartbeats 4000000 in
set_option maxRecDepth 100000 in
theorem Run_c (nm s : ByteArray) : PCall Try.prog 7 [.agg [.seq 17 [bdC nm (putE s)]], nilA, .val (.int .i64 9)] (.agg [.seq 1 [[.val (.string s)]], .val (.int .i64 0), .val (.int .i64 2)]) := by
  have HC := clone_c
  have HE := fun c => exp9_c c s
  have HR := fun b bo => run_c b bo (.seq 1 []) s
  obtain ⟨ks, hks⟩ : ∃ ks, AV.seq 11 [exC 3 s 0 nilA] = ks := ⟨_, rfl⟩
  unfold bdC putE exC nilA mcC ouC vlC at *
  simp only [List.cons_append, List.nil_append] at *
  refine ACall.enter Try.func7 rfl (by kernel_rfl) rfl (Nat.le_of_ble_eq_true rfl) ?_
  refine c_start ?_
  refine c_seq ?_
  refine c_region ?_
  refine AOps.st 3 rfl rfl rfl (op_boxc (cs' := [_]) rfl rfl rfl rfl ?_)
  refine AOps.st 6 rfl rfl rfl (op_alloce (cs' := [_, _, _]) rfl tz_39 rfl rfl ?_); intro b6
  refine AOps.nil ?_
  refine go_code ?_
  refine c_seq ?_
  refine c_region ?_
  refine AOps.st 17 rfl rfl rfl (op_move rfl rfl ?_)
  refine AOps.st 18 rfl rfl rfl (op_callp (xs := [.tmp 17]) rfl rfl (HC) (by first | exact Les.refl _ | (repeat' (first | exact Les.refl _ | refine Les.cons ?_ ?_ | exact Le.refl _ | exact Le.own _ _ _ | exact Le.nil _ | refine Le.agg ?_))) ?_)
  refine AOps.st 19 rfl rfl rfl (op_move rfl rfl ?_)
  refine AOps.st 20 rfl rfl rfl (op_max rfl rfl rfl ?_)
  refine AOps.st 21 rfl rfl rfl (op_build (ns := [1, 3]) (xs := [.tmp 18, .tmp 20]) rfl tz_57 rfl tfl_57 rfl rfl rfl rfl ?_)
  refine AOps.st 22 rfl rfl rfl (op_boxe (cs' := [_, _, _, _, _, _]) rfl rfl rfl rfl ?_); intro b22
  refine AOps.st 7 rfl rfl rfl (op_assign rfl rfl ?_)
  refine AOps.nil ?_
  refine go_code ?_
  refine c_seq ?_
  refine c_region ?_
  refine AOps.st 23 rfl rfl rfl (op_makeMap rfl ?_); intro b23
  refine AOps.st 24 rfl rfl rfl (op_build (ns := [0]) (xs := [.tmp 23]) rfl tz_61 rfl tfl_61 rfl rfl rfl rfl ?_)
  refine AOps.st 25 rfl rfl rfl (op_boxc (cs' := [_]) rfl rfl rfl rfl ?_)
  refine AOps.st 8 rfl rfl rfl (op_assign rfl rfl ?_)
  refine AOps.nil ?_
  refine go_code ?_
  refine c_seq ?_
  refine c_seq ?_
  refine c_region ?_
  refine AOps.st 26 rfl rfl rfl (op_fieldAddr_c rfl tf_44_0 rfl rfl ?_)
  refine AOps.st 27 rfl rfl rfl (op_load_c1 rfl ta_34 rfl rfl ?_)
  first | (refine AOps.st 28 rfl rfl rfl (op_len rfl tu_34 rfl (.seq _ _) (fun n28 => ?_))) | (refine AOps.st 28 rfl rfl rfl (op_len rfl tu_34 rfl (.own _ _ _) (fun n28 => ?_))) | (refine AOps.st 28 rfl rfl rfl (op_len rfl tu_34 rfl (.nil 0) (fun n28 => ?_))) | (refine AOps.st 28 rfl rfl rfl (op_len_arr rfl tu_34 rfl ?_))
  refine AOps.st 29 rfl rfl rfl (op_move rfl rfl ?_)
  refine AOps.nil ?_
  refine go_code ?_
  refine c_block ?_
  apply c_loopk [0, 1, 2, 4, 5, 9, 10, 11, 12, 13, 17, 18, 19, 20, 21, 22, 23, 24, 25, 26, 29, 30, 31, 32, 33, 34, 35, 36, 37, 38, 39, 40, 41, 42, 43, 44, 45, 46, 47, 48, 49, 50, 51, 52, 53, 54, 55, 56, 57, 58, 59, 60, 61, 62, 63, 64, 65, 66, 67, 68, 69, 70, 71, 72, 73, 74] (σ := Nat × Nat) (fun zz => match zz with | (j, bo) => [(29, .val (.int .i64 j))]) (fun zz => match zz with | (j, bo) => alt [mapR b23 [], .loc b22 [nilA, .seq 1 [], nilA, .val (.int .i64 9), .val (.int .i64 0), .val (.int .i64 0)], .loc b6 [nilA, .val (.int .i64 0), .val (.int .i64 0)]] [.loc bo (.val .nilFunc :: .val (.bool false) :: .val (.bool false) :: vlC 0 ⟨#[]⟩), mapR b23 [(nm, .ptr bo 0)], .loc b22 [.seq 1 [[.ptr bo 0]], .seq 1 [], nilA, .val (.int .i64 9), .val (.int .i64 0), .val (.int .i64 0)], .loc b6 [nilA, .val (.int .i64 0), .val (.int .i64 0)]] j) (fun zz => match zz with | (j, bo) => j ≤ 1) (fun zz => match zz with | (j, bo) => 1 - j) ((0, 0))
  · repeat' (first | exact Drops.nil | apply Drops.keep rfl | apply Drops.skip rfl)
  · exact Nat.zero_le _
  · exact (by repeat' (first | exact SLe.nil _ | refine SLe.cons rfl ?_ ?_ | exact Le.refl _ | exact Le.own _ _ _ | exact Le.nil _))
  · exact (by first | exact MLe.none _ | exact MLe.refl _ | (repeat' (first | exact MLe.nil | exact MLe.refl _ | refine MLe.cons _ ?_ | refine MLe.drop _ ?_)))
  rintro ⟨j, bo⟩ hI
  try dsimp only [List.cons_append, List.nil_append] at hI ⊢
  refine c_seq ?_
  refine c_region ?_
  refine AOps.st 30 rfl rfl rfl (op_lss rfl rfl rfl ?_); intro c30 h30
  refine AOps.nil ?_
  refine go_code ?_
  refine c_seq ?_
  rcases bool_split h30 with ⟨rfl, g30⟩ | ⟨rfl, g30⟩
  · refine c_cond_f rfl ?_
    refine c_exit ?_
    refine x_code ?_
    refine x_lp ?_
    refine x_here ?_
    refine go_code ?_
    refine c_seq ?_
    refine c_seq ?_
    obtain rfl : j = 1 := by simp at g30; omega
    simp only [alt]
    refine c_region ?_
    refine AOps.st 75 rfl rfl rfl (op_fieldAddr_c rfl tf_44_0 rfl rfl ?_)
    refine AOps.st 76 rfl rfl rfl (op_load_c1 rfl ta_34 rfl rfl ?_)
    first | (refine AOps.st 77 rfl rfl rfl (op_len rfl tu_34 rfl (.seq _ _) (fun n77 => ?_))) | (refine AOps.st 77 rfl rfl rfl (op_len rfl tu_34 rfl (.own _ _ _) (fun n77 => ?_))) | (refine AOps.st 77 rfl rfl rfl (op_len rfl tu_34 rfl (.nil 0) (fun n77 => ?_))) | (refine AOps.st 77 rfl rfl rfl (op_len_arr rfl tu_34 rfl ?_))
    refine AOps.st 78 rfl rfl rfl (op_move rfl rfl ?_)
    refine AOps.nil ?_
    refine go_code ?_
    refine c_block ?_
    apply c_loopk [0, 1, 2, 3, 4, 5, 9, 10, 11, 12, 13, 14, 15, 17, 18, 19, 20, 21, 22, 23, 24, 25, 26, 27, 28, 29, 30, 31, 32, 33, 34, 35, 36, 37, 38, 40, 41, 42, 43, 44, 45, 46, 47, 48, 49, 50, 51, 52, 53, 54, 55, 56, 57, 58, 59, 60, 61, 62, 63, 64, 65, 66, 67, 68, 69, 70, 71, 72, 73, 74, 75, 78, 79, 80, 81, 82, 83, 84, 85, 86, 87, 88, 89, 90, 91, 92, 93, 94, 95, 96] (σ := Nat) (fun zz => match zz with | q => [(78, .val (.int .i64 q))]) (fun zz => match zz with | q => [.loc bo (alt (.val .nilFunc) (putF s) q :: .val (.bool false) :: .val (.bool false) :: vlC 0 ⟨#[]⟩), mapR b23 [(nm, .ptr bo 0)], .loc b22 [.seq 1 [[.ptr bo 0]], .seq 1 [], nilA, .val (.int .i64 9), .val (.int .i64 0), .val (.int .i64 0)], .loc b6 [nilA, .val (.int .i64 0), .val (.int .i64 0)]]) (fun zz => match zz with | q => q ≤ 1) (fun zz => match zz with | q => 1 - q) (0)
    · repeat' (first | exact Drops.nil | apply Drops.keep rfl | apply Drops.skip rfl)
    · exact Nat.zero_le _
    · exact (by repeat' (first | exact SLe.nil _ | refine SLe.cons rfl ?_ ?_ | exact Le.refl _ | exact Le.own _ _ _ | exact Le.nil _))
    · exact (by first | exact MLe.none _ | exact MLe.refl _ | (repeat' (first | exact MLe.nil | exact MLe.refl _ | refine MLe.cons _ ?_ | refine MLe.drop _ ?_)))
    rintro q hI
    try dsimp only [List.cons_append, List.nil_append] at hI ⊢
    refine c_seq ?_
    refine c_region ?_
    refine AOps.st 79 rfl rfl rfl (op_lss rfl rfl rfl ?_); intro c79 h79
    refine AOps.nil ?_
    refine go_code ?_
    refine c_seq ?_
    rcases bool_split h79 with ⟨rfl, g79⟩ | ⟨rfl, g79⟩
    · refine c_cond_f rfl ?_
      refine c_exit ?_
      refine x_code ?_
      refine x_lp ?_
      refine x_here ?_
      refine go_code ?_
      refine c_seq ?_
      obtain rfl : q = 1 := by simp at g79; omega
      simp only [alt]
      refine c_region ?_
      refine AOps.st 97 rfl rfl rfl (op_move rfl rfl ?_)
      refine AOps.st 98 rfl rfl rfl (op_callat [2, 0] (xs := [.tmp 97])  rfl rfl rfl (HR b22 bo) (by first | exact Les.refl _ | (repeat' (first | exact Les.refl _ | refine Les.cons ?_ ?_ | exact Le.refl _ | exact Le.own _ _ _ | exact Le.nil _ | refine Le.agg ?_))) ?_)
      rintro v9 M9 ⟨rfl, rfl⟩
      refine AOps.st 16 rfl rfl rfl (op_assign rfl rfl ?_)
      refine AOps.nil ?_
      refine go_code ?_
      refine c_seq ?_
      refine c_drawnE [0, 1, 2, 3, 4, 5, 6, 7, 8, 9, 10] [10] [[], [0], [0, 1], [0, 1, 2], [], [], [5], [5, 6], [5, 6, 7], [0, 1, 2, 3, 4, 5, 6, 7, 8], [0, 1, 2, 3, 4, 5, 6, 7, 8, 9]] tmix rfl ?_
      refine EOps.d 99 (none) (i := 0) rfl rfl rfl rfl rfl (op_move rfl rfl ⟨rfl, rfl⟩) ?_
      first | (refine EOps.d 100 (none) (i := 1) rfl rfl rfl rfl rfl (op_nilCheck_m rfl rfl ⟨rfl, rfl⟩) ?_) | (refine EOps.d 100 (none) (i := 1) rfl rfl rfl rfl rfl (op_nilCheck_c rfl rfl ⟨rfl, rfl⟩) ?_) | (refine EOps.d 100 (none) (i := 1) rfl rfl rfl rfl rfl (op_nilCheck_f rfl rfl ⟨rfl, rfl⟩) ?_)
      first | (refine EOps.d 101 (none) (i := 2) rfl rfl rfl rfl rfl (op_fieldAddr_m rfl tf_57_2 rfl ⟨rfl, rfl⟩) ?_) | (refine EOps.d 101 (none) (i := 2) rfl rfl rfl rfl rfl (op_fieldAddr_c rfl tf_57_2 rfl rfl ⟨rfl, rfl⟩) ?_)
      first | (refine EOps.d 102 (some 0) (i := 3) rfl rfl rfl rfl rfl (op_load_m1 (i := 0) rfl ta_37 rfl rfl rfl ⟨rfl, rfl⟩) ?_) | (refine EOps.d 102 (some 1) (i := 3) rfl rfl rfl rfl rfl (op_load_m1 (i := 0) rfl ta_37 rfl rfl rfl ⟨rfl, rfl⟩) ?_) | (refine EOps.d 102 (some 2) (i := 3) rfl rfl rfl rfl rfl (op_load_m1 (i := 0) rfl ta_37 rfl rfl rfl ⟨rfl, rfl⟩) ?_) | (refine EOps.d 102 (some 3) (i := 3) rfl rfl rfl rfl rfl (op_load_m1 (i := 0) rfl ta_37 rfl rfl rfl ⟨rfl, rfl⟩) ?_) | (refine EOps.d 102 (some 4) (i := 3) rfl rfl rfl rfl rfl (op_load_m1 (i := 0) rfl ta_37 rfl rfl rfl ⟨rfl, rfl⟩) ?_) | (refine EOps.d 102 (some 5) (i := 3) rfl rfl rfl rfl rfl (op_load_m1 (i := 0) rfl ta_37 rfl rfl rfl ⟨rfl, rfl⟩) ?_) | (refine EOps.d 102 (some 6) (i := 3) rfl rfl rfl rfl rfl (op_load_m1 (i := 0) rfl ta_37 rfl rfl rfl ⟨rfl, rfl⟩) ?_) | (refine EOps.d 102 (some 7) (i := 3) rfl rfl rfl rfl rfl (op_load_m1 (i := 0) rfl ta_37 rfl rfl rfl ⟨rfl, rfl⟩) ?_) | (refine EOps.d 102 (some 8) (i := 3) rfl rfl rfl rfl rfl (op_load_m1 (i := 0) rfl ta_37 rfl rfl rfl ⟨rfl, rfl⟩) ?_) | (refine EOps.d 102 (some 9) (i := 3) rfl rfl rfl rfl rfl (op_load_m1 (i := 0) rfl ta_37 rfl rfl rfl ⟨rfl, rfl⟩) ?_) | (refine EOps.d 102 (none) (i := 3) rfl rfl rfl rfl rfl (op_load_c1 rfl ta_37 rfl rfl ⟨rfl, rfl⟩) ?_)
      refine EOps.d 103 (none) (i := 4) rfl rfl rfl rfl rfl (op_move rfl rfl ⟨rfl, rfl⟩) ?_
      refine EOps.d 104 (none) (i := 5) rfl rfl rfl rfl rfl (op_move rfl rfl ⟨rfl, rfl⟩) ?_
      first | (refine EOps.d 105 (none) (i := 6) rfl rfl rfl rfl rfl (op_nilCheck_m rfl rfl ⟨rfl, rfl⟩) ?_) | (refine EOps.d 105 (none) (i := 6) rfl rfl rfl rfl rfl (op_nilCheck_c rfl rfl ⟨rfl, rfl⟩) ?_) | (refine EOps.d 105 (none) (i := 6) rfl rfl rfl rfl rfl (op_nilCheck_f rfl rfl ⟨rfl, rfl⟩) ?_)
      first | (refine EOps.d 106 (none) (i := 7) rfl rfl rfl rfl rfl (op_fieldAddr_m rfl tf_57_4 rfl ⟨rfl, rfl⟩) ?_) | (refine EOps.d 106 (none) (i := 7) rfl rfl rfl rfl rfl (op_fieldAddr_c rfl tf_57_4 rfl rfl ⟨rfl, rfl⟩) ?_)
      first | (refine EOps.d 107 (some 0) (i := 8) rfl rfl rfl rfl rfl (op_load_m1 (i := 0) rfl ta_3 rfl rfl rfl ⟨rfl, rfl⟩) ?_) | (refine EOps.d 107 (some 1) (i := 8) rfl rfl rfl rfl rfl (op_load_m1 (i := 0) rfl ta_3 rfl rfl rfl ⟨rfl, rfl⟩) ?_) | (refine EOps.d 107 (some 2) (i := 8) rfl rfl rfl rfl rfl (op_load_m1 (i := 0) rfl ta_3 rfl rfl rfl ⟨rfl, rfl⟩) ?_) | (refine EOps.d 107 (some 3) (i := 8) rfl rfl rfl rfl rfl (op_load_m1 (i := 0) rfl ta_3 rfl rfl rfl ⟨rfl, rfl⟩) ?_) | (refine EOps.d 107 (some 4) (i := 8) rfl rfl rfl rfl rfl (op_load_m1 (i := 0) rfl ta_3 rfl rfl rfl ⟨rfl, rfl⟩) ?_) | (refine EOps.d 107 (some 5) (i := 8) rfl rfl rfl rfl rfl (op_load_m1 (i := 0) rfl ta_3 rfl rfl rfl ⟨rfl, rfl⟩) ?_) | (refine EOps.d 107 (some 6) (i := 8) rfl rfl rfl rfl rfl (op_load_m1 (i := 0) rfl ta_3 rfl rfl rfl ⟨rfl, rfl⟩) ?_) | (refine EOps.d 107 (some 7) (i := 8) rfl rfl rfl rfl rfl (op_load_m1 (i := 0) rfl ta_3 rfl rfl rfl ⟨rfl, rfl⟩) ?_) | (refine EOps.d 107 (some 8) (i := 8) rfl rfl rfl rfl rfl (op_load_m1 (i := 0) rfl ta_3 rfl rfl rfl ⟨rfl, rfl⟩) ?_) | (refine EOps.d 107 (some 9) (i := 8) rfl rfl rfl rfl rfl (op_load_m1 (i := 0) rfl ta_3 rfl rfl rfl ⟨rfl, rfl⟩) ?_) | (refine EOps.d 107 (none) (i := 8) rfl rfl rfl rfl rfl (op_load_c1 rfl ta_3 rfl rfl ⟨rfl, rfl⟩) ?_)
      refine EOps.d 108 (none) (i := 9) rfl rfl rfl rfl rfl (op_build (ns := [0, 1, 2]) (xs := [.tmp 102, .tmp 103, .tmp 107]) rfl tz_39 rfl tfl_39 rfl rfl rfl rfl ⟨rfl, rfl⟩) ?_
      first | (refine EOps.w 0 (i := 10) rfl rfl rfl rfl rfl (op_store (cs' := [_, _, _]) (i := 0) rfl ts_39 rfl rfl rfl rfl rfl (Nat.le_of_ble_eq_true rfl) rfl ⟨_, rfl, ?_⟩)) | (refine EOps.w 1 (i := 10) rfl rfl rfl rfl rfl (op_store (cs' := [_, _, _]) (i := 0) rfl ts_39 rfl rfl rfl rfl rfl (Nat.le_of_ble_eq_true rfl) rfl ⟨_, rfl, ?_⟩)) | (refine EOps.w 2 (i := 10) rfl rfl rfl rfl rfl (op_store (cs' := [_, _, _]) (i := 0) rfl ts_39 rfl rfl rfl rfl rfl (Nat.le_of_ble_eq_true rfl) rfl ⟨_, rfl, ?_⟩)) | (refine EOps.w 3 (i := 10) rfl rfl rfl rfl rfl (op_store (cs' := [_, _, _]) (i := 0) rfl ts_39 rfl rfl rfl rfl rfl (Nat.le_of_ble_eq_true rfl) rfl ⟨_, rfl, ?_⟩)) | (refine EOps.w 4 (i := 10) rfl rfl rfl rfl rfl (op_store (cs' := [_, _, _]) (i := 0) rfl ts_39 rfl rfl rfl rfl rfl (Nat.le_of_ble_eq_true rfl) rfl ⟨_, rfl, ?_⟩)) | (refine EOps.w 5 (i := 10) rfl rfl rfl rfl rfl (op_store (cs' := [_, _, _]) (i := 0) rfl ts_39 rfl rfl rfl rfl rfl (Nat.le_of_ble_eq_true rfl) rfl ⟨_, rfl, ?_⟩)) | (refine EOps.w 6 (i := 10) rfl rfl rfl rfl rfl (op_store (cs' := [_, _, _]) (i := 0) rfl ts_39 rfl rfl rfl rfl rfl (Nat.le_of_ble_eq_true rfl) rfl ⟨_, rfl, ?_⟩)) | (refine EOps.w 7 (i := 10) rfl rfl rfl rfl rfl (op_store (cs' := [_, _, _]) (i := 0) rfl ts_39 rfl rfl rfl rfl rfl (Nat.le_of_ble_eq_true rfl) rfl ⟨_, rfl, ?_⟩)) | (refine EOps.w 8 (i := 10) rfl rfl rfl rfl rfl (op_store (cs' := [_, _, _]) (i := 0) rfl ts_39 rfl rfl rfl rfl rfl (Nat.le_of_ble_eq_true rfl) rfl ⟨_, rfl, ?_⟩)) | (refine EOps.w 9 (i := 10) rfl rfl rfl rfl rfl (op_store (cs' := [_, _, _]) (i := 0) rfl ts_39 rfl rfl rfl rfl rfl (Nat.le_of_ble_eq_true rfl) rfl ⟨_, rfl, ?_⟩))
      show AGo _ _ _ _ _ _ _
      refine go_code ?_
      refine c_ret ?_
      exact out_cell (i := 2) rfl rfl rfl ta_39 rfl (Le.refl _) (by first | exact MLe.none _ | exact MLe.refl _ | (repeat' (first | exact MLe.nil | exact MLe.refl _ | refine MLe.cons _ ?_ | refine MLe.drop _ ?_))) ⟨rfl, rfl⟩
    · refine c_cond_t rfl ?_
      refine c_skip ?_
      refine go_code ?_
      refine c_seq ?_
      refine c_block ?_
      refine c_seq ?_
      obtain rfl : q = 0 := by simp at g79; omega
      simp only [alt]
      refine c_region ?_
      refine AOps.st 80 rfl rfl rfl (op_move rfl rfl ?_)
      first | (refine AOps.st 81 rfl rfl rfl (op_index rfl te_34 rfl (.seq _ _) rfl rfl (by assumption) ?_)) | (refine AOps.st 81 rfl rfl rfl (op_index (i := 0) rfl te_34 rfl (.seq _ _) rfl rfl (by first | rfl | assumption) ?_)) | (refine AOps.st 81 rfl rfl rfl (op_index (i := 1) rfl te_34 rfl (.seq _ _) rfl rfl (by first | rfl | assumption) ?_)) | (refine AOps.st 81 rfl rfl rfl (op_index rfl te_34 rfl (.own _ _ _) rfl rfl (by assumption) ?_)) | (refine AOps.st 81 rfl rfl rfl (op_index (i := 0) rfl te_34 rfl (.own _ _ _) rfl rfl (by first | rfl | assumption) ?_)) | (refine AOps.st 81 rfl rfl rfl (op_index (i := 1) rfl te_34 rfl (.own _ _ _) rfl rfl (by first | rfl | assumption) ?_)) | (refine AOps.st 81 rfl rfl rfl (op_index_arr rfl te_34 rfl rfl rfl (by omega) ?_))
      first | (refine AOps.st 82 rfl rfl rfl (op_load_m (cs' := [_, _, _, _, _, _, _, _, _, _, _, _, _, _, _, _, _]) (i := 0) rfl ta_42 rfl rfl rfl rfl ?_)) | (refine AOps.st 82 rfl rfl rfl (op_load_m (cs' := [_, _, _, _, _, _, _, _, _, _, _, _, _, _, _, _, _]) (i := 1) rfl ta_42 rfl rfl rfl rfl ?_)) | (refine AOps.st 82 rfl rfl rfl (op_load_m (cs' := [_, _, _, _, _, _, _, _, _, _, _, _, _, _, _, _, _]) (i := 2) rfl ta_42 rfl rfl rfl rfl ?_)) | (refine AOps.st 82 rfl rfl rfl (op_load_m (cs' := [_, _, _, _, _, _, _, _, _, _, _, _, _, _, _, _, _]) (i := 3) rfl ta_42 rfl rfl rfl rfl ?_)) | (refine AOps.st 82 rfl rfl rfl (op_load_m (cs' := [_, _, _, _, _, _, _, _, _, _, _, _, _, _, _, _, _]) (i := 4) rfl ta_42 rfl rfl rfl rfl ?_)) | (refine AOps.st 82 rfl rfl rfl (op_load_m (cs' := [_, _, _, _, _, _, _, _, _, _, _, _, _, _, _, _, _]) (i := 5) rfl ta_42 rfl rfl rfl rfl ?_)) | (refine AOps.st 82 rfl rfl rfl (op_load_m (cs' := [_, _, _, _, _, _, _, _, _, _, _, _, _, _, _, _, _]) (i := 6) rfl ta_42 rfl rfl rfl rfl ?_)) | (refine AOps.st 82 rfl rfl rfl (op_load_m (cs' := [_, _, _, _, _, _, _, _, _, _, _, _, _, _, _, _, _]) (i := 7) rfl ta_42 rfl rfl rfl rfl ?_)) | (refine AOps.st 82 rfl rfl rfl (op_load_m (cs' := [_, _, _, _, _, _, _, _, _, _, _, _, _, _, _, _, _]) (i := 8) rfl ta_42 rfl rfl rfl rfl ?_)) | (refine AOps.st 82 rfl rfl rfl (op_load_m (cs' := [_, _, _, _, _, _, _, _, _, _, _, _, _, _, _, _, _]) (i := 9) rfl ta_42 rfl rfl rfl rfl ?_)) | (refine AOps.st 82 rfl rfl rfl (op_load_c (cs' := [_, _, _, _, _, _, _, _, _, _, _, _, _, _, _, _, _]) rfl ta_42 rfl rfl rfl ?_))
      refine AOps.st 15 rfl rfl rfl (op_alloce (cs' := [_, _, _, _, _, _, _, _, _, _, _, _, _, _, _, _, _]) rfl tz_42 rfl rfl ?_); intro b15
      refine AOps.st 14 rfl rfl rfl (op_assign rfl rfl ?_)
      first | (refine AOps.st0 rfl rfl (op_store (cs' := [_, _, _, _, _, _, _, _, _, _, _, _, _, _, _, _, _]) (i := 0) rfl ts_42 rfl rfl rfl rfl rfl (Nat.le_of_ble_eq_true rfl) rfl ?_)) | (refine AOps.st0 rfl rfl (op_store (cs' := [_, _, _, _, _, _, _, _, _, _, _, _, _, _, _, _, _]) (i := 1) rfl ts_42 rfl rfl rfl rfl rfl (Nat.le_of_ble_eq_true rfl) rfl ?_)) | (refine AOps.st0 rfl rfl (op_store (cs' := [_, _, _, _, _, _, _, _, _, _, _, _, _, _, _, _, _]) (i := 2) rfl ts_42 rfl rfl rfl rfl rfl (Nat.le_of_ble_eq_true rfl) rfl ?_)) | (refine AOps.st0 rfl rfl (op_store (cs' := [_, _, _, _, _, _, _, _, _, _, _, _, _, _, _, _, _]) (i := 3) rfl ts_42 rfl rfl rfl rfl rfl (Nat.le_of_ble_eq_true rfl) rfl ?_)) | (refine AOps.st0 rfl rfl (op_store (cs' := [_, _, _, _, _, _, _, _, _, _, _, _, _, _, _, _, _]) (i := 4) rfl ts_42 rfl rfl rfl rfl rfl (Nat.le_of_ble_eq_true rfl) rfl ?_)) | (refine AOps.st0 rfl rfl (op_store (cs' := [_, _, _, _, _, _, _, _, _, _, _, _, _, _, _, _, _]) (i := 5) rfl ts_42 rfl rfl rfl rfl rfl (Nat.le_of_ble_eq_true rfl) rfl ?_)) | (refine AOps.st0 rfl rfl (op_store (cs' := [_, _, _, _, _, _, _, _, _, _, _, _, _, _, _, _, _]) (i := 6) rfl ts_42 rfl rfl rfl rfl rfl (Nat.le_of_ble_eq_true rfl) rfl ?_)) | (refine AOps.st0 rfl rfl (op_store (cs' := [_, _, _, _, _, _, _, _, _, _, _, _, _, _, _, _, _]) (i := 7) rfl ts_42 rfl rfl rfl rfl rfl (Nat.le_of_ble_eq_true rfl) rfl ?_)) | (refine AOps.st0 rfl rfl (op_store (cs' := [_, _, _, _, _, _, _, _, _, _, _, _, _, _, _, _, _]) (i := 8) rfl ts_42 rfl rfl rfl rfl rfl (Nat.le_of_ble_eq_true rfl) rfl ?_)) | (refine AOps.st0 rfl rfl (op_store (cs' := [_, _, _, _, _, _, _, _, _, _, _, _, _, _, _, _, _]) (i := 9) rfl ts_42 rfl rfl rfl rfl rfl (Nat.le_of_ble_eq_true rfl) rfl ?_))
      refine AOps.nil ?_
      refine go_code ?_
      refine c_drawnE [0, 1, 2, 3, 4, 5, 6, 7, 8, 9, 10, 11, 12, 13] [13] [[], [0], [0, 1], [0, 1, 2], [], [0, 1, 2, 3, 4], [0, 1, 2, 3, 4, 5], [], [], [8], [7, 8, 9], [0, 1, 2, 3, 4, 5, 6, 7, 8, 9, 10], [0, 1, 2, 3, 4, 5, 6, 7, 8, 9, 10, 11], [0, 1, 2, 3, 4, 5, 6, 7, 8, 9, 10, 11, 12]] tmix rfl ?_
      refine EOps.d 83 (none) (i := 0) rfl rfl rfl rfl rfl (op_move rfl rfl ⟨rfl, rfl⟩) ?_
      first | (refine EOps.d 84 (none) (i := 1) rfl rfl rfl rfl rfl (op_nilCheck_m rfl rfl ⟨rfl, rfl⟩) ?_) | (refine EOps.d 84 (none) (i := 1) rfl rfl rfl rfl rfl (op_nilCheck_c rfl rfl ⟨rfl, rfl⟩) ?_) | (refine EOps.d 84 (none) (i := 1) rfl rfl rfl rfl rfl (op_nilCheck_f rfl rfl ⟨rfl, rfl⟩) ?_)
      first | (refine EOps.d 85 (none) (i := 2) rfl rfl rfl rfl rfl (op_fieldAddr_m rfl tf_57_0 rfl ⟨rfl, rfl⟩) ?_) | (refine EOps.d 85 (none) (i := 2) rfl rfl rfl rfl rfl (op_fieldAddr_c rfl tf_57_0 rfl rfl ⟨rfl, rfl⟩) ?_)
      first | (refine EOps.d 86 (some 0) (i := 3) rfl rfl rfl rfl rfl (op_load_m1 (i := 0) rfl ta_55 rfl rfl rfl ⟨rfl, rfl⟩) ?_) | (refine EOps.d 86 (some 1) (i := 3) rfl rfl rfl rfl rfl (op_load_m1 (i := 0) rfl ta_55 rfl rfl rfl ⟨rfl, rfl⟩) ?_) | (refine EOps.d 86 (some 2) (i := 3) rfl rfl rfl rfl rfl (op_load_m1 (i := 0) rfl ta_55 rfl rfl rfl ⟨rfl, rfl⟩) ?_) | (refine EOps.d 86 (some 3) (i := 3) rfl rfl rfl rfl rfl (op_load_m1 (i := 0) rfl ta_55 rfl rfl rfl ⟨rfl, rfl⟩) ?_) | (refine EOps.d 86 (some 4) (i := 3) rfl rfl rfl rfl rfl (op_load_m1 (i := 0) rfl ta_55 rfl rfl rfl ⟨rfl, rfl⟩) ?_) | (refine EOps.d 86 (some 5) (i := 3) rfl rfl rfl rfl rfl (op_load_m1 (i := 0) rfl ta_55 rfl rfl rfl ⟨rfl, rfl⟩) ?_) | (refine EOps.d 86 (some 6) (i := 3) rfl rfl rfl rfl rfl (op_load_m1 (i := 0) rfl ta_55 rfl rfl rfl ⟨rfl, rfl⟩) ?_) | (refine EOps.d 86 (some 7) (i := 3) rfl rfl rfl rfl rfl (op_load_m1 (i := 0) rfl ta_55 rfl rfl rfl ⟨rfl, rfl⟩) ?_) | (refine EOps.d 86 (some 8) (i := 3) rfl rfl rfl rfl rfl (op_load_m1 (i := 0) rfl ta_55 rfl rfl rfl ⟨rfl, rfl⟩) ?_) | (refine EOps.d 86 (some 9) (i := 3) rfl rfl rfl rfl rfl (op_load_m1 (i := 0) rfl ta_55 rfl rfl rfl ⟨rfl, rfl⟩) ?_) | (refine EOps.d 86 (none) (i := 3) rfl rfl rfl rfl rfl (op_load_c1 rfl ta_55 rfl rfl ⟨rfl, rfl⟩) ?_)
      refine EOps.d 87 (none) (i := 4) rfl rfl rfl rfl rfl (op_move rfl rfl ⟨rfl, rfl⟩) ?_
      first | (refine EOps.d 88 (none) (i := 5) rfl rfl rfl rfl rfl (op_index rfl te_55 rfl (.seq _ _) rfl rfl (by assumption) ⟨rfl, rfl⟩) ?_) | (refine EOps.d 88 (none) (i := 5) rfl rfl rfl rfl rfl (op_index (i := 0) rfl te_55 rfl (.seq _ _) rfl rfl (by first | rfl | assumption) ⟨rfl, rfl⟩) ?_) | (refine EOps.d 88 (none) (i := 5) rfl rfl rfl rfl rfl (op_index (i := 1) rfl te_55 rfl (.seq _ _) rfl rfl (by first | rfl | assumption) ⟨rfl, rfl⟩) ?_) | (refine EOps.d 88 (none) (i := 5) rfl rfl rfl rfl rfl (op_index rfl te_55 rfl (.own _ _ _) rfl rfl (by assumption) ⟨rfl, rfl⟩) ?_) | (refine EOps.d 88 (none) (i := 5) rfl rfl rfl rfl rfl (op_index (i := 0) rfl te_55 rfl (.own _ _ _) rfl rfl (by first | rfl | assumption) ⟨rfl, rfl⟩) ?_) | (refine EOps.d 88 (none) (i := 5) rfl rfl rfl rfl rfl (op_index (i := 1) rfl te_55 rfl (.own _ _ _) rfl rfl (by first | rfl | assumption) ⟨rfl, rfl⟩) ?_) | (refine EOps.d 88 (none) (i := 5) rfl rfl rfl rfl rfl (op_index_arr rfl te_55 rfl rfl rfl (by omega) ⟨rfl, rfl⟩) ?_)
      first | (refine EOps.d 89 (some 0) (i := 6) rfl rfl rfl rfl rfl (op_load_m1 (i := 0) rfl ta_62 rfl rfl rfl ⟨rfl, rfl⟩) ?_) | (refine EOps.d 89 (some 1) (i := 6) rfl rfl rfl rfl rfl (op_load_m1 (i := 0) rfl ta_62 rfl rfl rfl ⟨rfl, rfl⟩) ?_) | (refine EOps.d 89 (some 2) (i := 6) rfl rfl rfl rfl rfl (op_load_m1 (i := 0) rfl ta_62 rfl rfl rfl ⟨rfl, rfl⟩) ?_) | (refine EOps.d 89 (some 3) (i := 6) rfl rfl rfl rfl rfl (op_load_m1 (i := 0) rfl ta_62 rfl rfl rfl ⟨rfl, rfl⟩) ?_) | (refine EOps.d 89 (some 4) (i := 6) rfl rfl rfl rfl rfl (op_load_m1 (i := 0) rfl ta_62 rfl rfl rfl ⟨rfl, rfl⟩) ?_) | (refine EOps.d 89 (some 5) (i := 6) rfl rfl rfl rfl rfl (op_load_m1 (i := 0) rfl ta_62 rfl rfl rfl ⟨rfl, rfl⟩) ?_) | (refine EOps.d 89 (some 6) (i := 6) rfl rfl rfl rfl rfl (op_load_m1 (i := 0) rfl ta_62 rfl rfl rfl ⟨rfl, rfl⟩) ?_) | (refine EOps.d 89 (some 7) (i := 6) rfl rfl rfl rfl rfl (op_load_m1 (i := 0) rfl ta_62 rfl rfl rfl ⟨rfl, rfl⟩) ?_) | (refine EOps.d 89 (some 8) (i := 6) rfl rfl rfl rfl rfl (op_load_m1 (i := 0) rfl ta_62 rfl rfl rfl ⟨rfl, rfl⟩) ?_) | (refine EOps.d 89 (some 9) (i := 6) rfl rfl rfl rfl rfl (op_load_m1 (i := 0) rfl ta_62 rfl rfl rfl ⟨rfl, rfl⟩) ?_) | (refine EOps.d 89 (none) (i := 6) rfl rfl rfl rfl rfl (op_load_c1 rfl ta_62 rfl rfl ⟨rfl, rfl⟩) ?_)
      refine EOps.d 90 (none) (i := 7) rfl rfl rfl rfl rfl (op_move rfl rfl ⟨rfl, rfl⟩) ?_
      first | (refine EOps.d 91 (none) (i := 8) rfl rfl rfl rfl rfl (op_fieldAddr_m rfl tf_42_3 rfl ⟨rfl, rfl⟩) ?_) | (refine EOps.d 91 (none) (i := 8) rfl rfl rfl rfl rfl (op_fieldAddr_c rfl tf_42_3 rfl rfl ⟨rfl, rfl⟩) ?_)
      first | (refine EOps.d 92 (some 0) (i := 9) rfl rfl rfl rfl rfl (op_load_m (cs' := [_, _, _, _, _, _, _, _, _, _, _]) (i := 0) rfl ta_36 rfl rfl rfl rfl ⟨rfl, rfl⟩) ?_) | (refine EOps.d 92 (some 1) (i := 9) rfl rfl rfl rfl rfl (op_load_m (cs' := [_, _, _, _, _, _, _, _, _, _, _]) (i := 0) rfl ta_36 rfl rfl rfl rfl ⟨rfl, rfl⟩) ?_) | (refine EOps.d 92 (some 2) (i := 9) rfl rfl rfl rfl rfl (op_load_m (cs' := [_, _, _, _, _, _, _, _, _, _, _]) (i := 0) rfl ta_36 rfl rfl rfl rfl ⟨rfl, rfl⟩) ?_) | (refine EOps.d 92 (some 3) (i := 9) rfl rfl rfl rfl rfl (op_load_m (cs' := [_, _, _, _, _, _, _, _, _, _, _]) (i := 0) rfl ta_36 rfl rfl rfl rfl ⟨rfl, rfl⟩) ?_) | (refine EOps.d 92 (some 4) (i := 9) rfl rfl rfl rfl rfl (op_load_m (cs' := [_, _, _, _, _, _, _, _, _, _, _]) (i := 0) rfl ta_36 rfl rfl rfl rfl ⟨rfl, rfl⟩) ?_) | (refine EOps.d 92 (some 5) (i := 9) rfl rfl rfl rfl rfl (op_load_m (cs' := [_, _, _, _, _, _, _, _, _, _, _]) (i := 0) rfl ta_36 rfl rfl rfl rfl ⟨rfl, rfl⟩) ?_) | (refine EOps.d 92 (some 6) (i := 9) rfl rfl rfl rfl rfl (op_load_m (cs' := [_, _, _, _, _, _, _, _, _, _, _]) (i := 0) rfl ta_36 rfl rfl rfl rfl ⟨rfl, rfl⟩) ?_) | (refine EOps.d 92 (some 7) (i := 9) rfl rfl rfl rfl rfl (op_load_m (cs' := [_, _, _, _, _, _, _, _, _, _, _]) (i := 0) rfl ta_36 rfl rfl rfl rfl ⟨rfl, rfl⟩) ?_) | (refine EOps.d 92 (some 8) (i := 9) rfl rfl rfl rfl rfl (op_load_m (cs' := [_, _, _, _, _, _, _, _, _, _, _]) (i := 0) rfl ta_36 rfl rfl rfl rfl ⟨rfl, rfl⟩) ?_) | (refine EOps.d 92 (some 9) (i := 9) rfl rfl rfl rfl rfl (op_load_m (cs' := [_, _, _, _, _, _, _, _, _, _, _]) (i := 0) rfl ta_36 rfl rfl rfl rfl ⟨rfl, rfl⟩) ?_) | (refine EOps.d 92 (none) (i := 9) rfl rfl rfl rfl rfl (op_load_c (cs' := [_, _, _, _, _, _, _, _, _, _, _]) rfl ta_36 rfl rfl rfl ⟨rfl, rfl⟩) ?_)
      refine EOps.d 93 (none) (i := 10) rfl rfl rfl rfl rfl (op_callp (xs := [.tmp 90, .tmp 92, .const (.slice none 0 0)]) rfl rfl ((HE _)) (by first | exact Les.refl _ | (repeat' (first | exact Les.refl _ | refine Les.cons ?_ ?_ | exact Le.refl _ | exact Le.own _ _ _ | exact Le.nil _ | refine Le.agg ?_))) ⟨rfl, rfl⟩) ?_
      first | (refine EOps.d 94 (none) (i := 11) rfl rfl rfl rfl rfl (op_nilCheck_m rfl rfl ⟨rfl, rfl⟩) ?_) | (refine EOps.d 94 (none) (i := 11) rfl rfl rfl rfl rfl (op_nilCheck_c rfl rfl ⟨rfl, rfl⟩) ?_) | (refine EOps.d 94 (none) (i := 11) rfl rfl rfl rfl rfl (op_nilCheck_f rfl rfl ⟨rfl, rfl⟩) ?_)
      first | (refine EOps.d 95 (none) (i := 12) rfl rfl rfl rfl rfl (op_fieldAddr_m rfl tf_71_0 rfl ⟨rfl, rfl⟩) ?_) | (refine EOps.d 95 (none) (i := 12) rfl rfl rfl rfl rfl (op_fieldAddr_c rfl tf_71_0 rfl rfl ⟨rfl, rfl⟩) ?_)
      first | (refine EOps.w 0 (i := 13) rfl rfl rfl rfl rfl (op_store (i := 0) rfl ts_64 rfl rfl rfl rfl rfl (Nat.le_of_ble_eq_true rfl) rfl ⟨_, rfl, ?_⟩)) | (refine EOps.w 1 (i := 13) rfl rfl rfl rfl rfl (op_store (i := 0) rfl ts_64 rfl rfl rfl rfl rfl (Nat.le_of_ble_eq_true rfl) rfl ⟨_, rfl, ?_⟩)) | (refine EOps.w 2 (i := 13) rfl rfl rfl rfl rfl (op_store (i := 0) rfl ts_64 rfl rfl rfl rfl rfl (Nat.le_of_ble_eq_true rfl) rfl ⟨_, rfl, ?_⟩)) | (refine EOps.w 3 (i := 13) rfl rfl rfl rfl rfl (op_store (i := 0) rfl ts_64 rfl rfl rfl rfl rfl (Nat.le_of_ble_eq_true rfl) rfl ⟨_, rfl, ?_⟩)) | (refine EOps.w 4 (i := 13) rfl rfl rfl rfl rfl (op_store (i := 0) rfl ts_64 rfl rfl rfl rfl rfl (Nat.le_of_ble_eq_true rfl) rfl ⟨_, rfl, ?_⟩)) | (refine EOps.w 5 (i := 13) rfl rfl rfl rfl rfl (op_store (i := 0) rfl ts_64 rfl rfl rfl rfl rfl (Nat.le_of_ble_eq_true rfl) rfl ⟨_, rfl, ?_⟩)) | (refine EOps.w 6 (i := 13) rfl rfl rfl rfl rfl (op_store (i := 0) rfl ts_64 rfl rfl rfl rfl rfl (Nat.le_of_ble_eq_true rfl) rfl ⟨_, rfl, ?_⟩)) | (refine EOps.w 7 (i := 13) rfl rfl rfl rfl rfl (op_store (i := 0) rfl ts_64 rfl rfl rfl rfl rfl (Nat.le_of_ble_eq_true rfl) rfl ⟨_, rfl, ?_⟩)) | (refine EOps.w 8 (i := 13) rfl rfl rfl rfl rfl (op_store (i := 0) rfl ts_64 rfl rfl rfl rfl rfl (Nat.le_of_ble_eq_true rfl) rfl ⟨_, rfl, ?_⟩)) | (refine EOps.w 9 (i := 13) rfl rfl rfl rfl rfl (op_store (i := 0) rfl ts_64 rfl rfl rfl rfl rfl (Nat.le_of_ble_eq_true rfl) rfl ⟨_, rfl, ?_⟩))
      show AGo _ _ _ _ _ _ _
      refine go_blk ?_
      refine go_code ?_
      refine c_region ?_
      first | (refine AOps.st 96 rfl rfl rfl (op_add rfl rfl rfl (IntWalk.i64_in _ (by omega)) ?_)) | (refine AOps.st 96 rfl rfl rfl (op_add rfl rfl rfl rfl ?_))
      refine AOps.st 78 rfl rfl rfl (op_move rfl rfl ?_)
      refine AOps.nil ?_
      refine go_lp ?_
      exact ⟨1, by decide, by decide, (by repeat' (first | exact SLe.nil _ | refine SLe.cons rfl ?_ ?_ | exact Le.refl _ | exact Le.own _ _ _ | exact Le.nil _)), (by first | exact MLe.none _ | exact MLe.refl _ | (repeat' (first | exact MLe.nil | exact MLe.refl _ | refine MLe.cons _ ?_ | refine MLe.drop _ ?_)))⟩
  · refine c_cond_t rfl ?_
    refine c_skip ?_
    refine go_code ?_
    refine c_seq ?_
    refine c_block ?_
    refine c_seq ?_
    obtain rfl : j = 0 := by simp at g30; omega
    simp only [alt]
    refine c_region ?_
    first | (refine AOps.st 31 rfl rfl rfl (op_index rfl te_34 rfl (.seq _ _) rfl rfl (by assumption) ?_)) | (refine AOps.st 31 rfl rfl rfl (op_index (i := 0) rfl te_34 rfl (.seq _ _) rfl rfl (by first | rfl | assumption) ?_)) | (refine AOps.st 31 rfl rfl rfl (op_index (i := 1) rfl te_34 rfl (.seq _ _) rfl rfl (by first | rfl | assumption) ?_)) | (refine AOps.st 31 rfl rfl rfl (op_index rfl te_34 rfl (.own _ _ _) rfl rfl (by assumption) ?_)) | (refine AOps.st 31 rfl rfl rfl (op_index (i := 0) rfl te_34 rfl (.own _ _ _) rfl rfl (by first | rfl | assumption) ?_)) | (refine AOps.st 31 rfl rfl rfl (op_index (i := 1) rfl te_34 rfl (.own _ _ _) rfl rfl (by first | rfl | assumption) ?_)) | (refine AOps.st 31 rfl rfl rfl (op_index_arr rfl te_34 rfl rfl rfl (by omega) ?_))
    first | (refine AOps.st 32 rfl rfl rfl (op_load_m (cs' := [_, _, _, _, _, _, _, _, _, _, _, _, _, _, _, _, _]) (i := 0) rfl ta_42 rfl rfl rfl rfl ?_)) | (refine AOps.st 32 rfl rfl rfl (op_load_m (cs' := [_, _, _, _, _, _, _, _, _, _, _, _, _, _, _, _, _]) (i := 1) rfl ta_42 rfl rfl rfl rfl ?_)) | (refine AOps.st 32 rfl rfl rfl (op_load_m (cs' := [_, _, _, _, _, _, _, _, _, _, _, _, _, _, _, _, _]) (i := 2) rfl ta_42 rfl rfl rfl rfl ?_)) | (refine AOps.st 32 rfl rfl rfl (op_load_m (cs' := [_, _, _, _, _, _, _, _, _, _, _, _, _, _, _, _, _]) (i := 3) rfl ta_42 rfl rfl rfl rfl ?_)) | (refine AOps.st 32 rfl rfl rfl (op_load_m (cs' := [_, _, _, _, _, _, _, _, _, _, _, _, _, _, _, _, _]) (i := 4) rfl ta_42 rfl rfl rfl rfl ?_)) | (refine AOps.st 32 rfl rfl rfl (op_load_m (cs' := [_, _, _, _, _, _, _, _, _, _, _, _, _, _, _, _, _]) (i := 5) rfl ta_42 rfl rfl rfl rfl ?_)) | (refine AOps.st 32 rfl rfl rfl (op_load_m (cs' := [_, _, _, _, _, _, _, _, _, _, _, _, _, _, _, _, _]) (i := 6) rfl ta_42 rfl rfl rfl rfl ?_)) | (refine AOps.st 32 rfl rfl rfl (op_load_m (cs' := [_, _, _, _, _, _, _, _, _, _, _, _, _, _, _, _, _]) (i := 7) rfl ta_42 rfl rfl rfl rfl ?_)) | (refine AOps.st 32 rfl rfl rfl (op_load_m (cs' := [_, _, _, _, _, _, _, _, _, _, _, _, _, _, _, _, _]) (i := 8) rfl ta_42 rfl rfl rfl rfl ?_)) | (refine AOps.st 32 rfl rfl rfl (op_load_m (cs' := [_, _, _, _, _, _, _, _, _, _, _, _, _, _, _, _, _]) (i := 9) rfl ta_42 rfl rfl rfl rfl ?_)) | (refine AOps.st 32 rfl rfl rfl (op_load_c (cs' := [_, _, _, _, _, _, _, _, _, _, _, _, _, _, _, _, _]) rfl ta_42 rfl rfl rfl ?_))
    refine AOps.st 10 rfl rfl rfl (op_alloce (cs' := [_, _, _, _, _, _, _, _, _, _, _, _, _, _, _, _, _]) rfl tz_42 rfl rfl ?_); intro b10
    first | (refine AOps.st0 rfl rfl (op_store (cs' := [_, _, _, _, _, _, _, _, _, _, _, _, _, _, _, _, _]) (i := 0) rfl ts_42 rfl rfl rfl rfl rfl (Nat.le_of_ble_eq_true rfl) rfl ?_)) | (refine AOps.st0 rfl rfl (op_store (cs' := [_, _, _, _, _, _, _, _, _, _, _, _, _, _, _, _, _]) (i := 1) rfl ts_42 rfl rfl rfl rfl rfl (Nat.le_of_ble_eq_true rfl) rfl ?_)) | (refine AOps.st0 rfl rfl (op_store (cs' := [_, _, _, _, _, _, _, _, _, _, _, _, _, _, _, _, _]) (i := 2) rfl ts_42 rfl rfl rfl rfl rfl (Nat.le_of_ble_eq_true rfl) rfl ?_)) | (refine AOps.st0 rfl rfl (op_store (cs' := [_, _, _, _, _, _, _, _, _, _, _, _, _, _, _, _, _]) (i := 3) rfl ts_42 rfl rfl rfl rfl rfl (Nat.le_of_ble_eq_true rfl) rfl ?_)) | (refine AOps.st0 rfl rfl (op_store (cs' := [_, _, _, _, _, _, _, _, _, _, _, _, _, _, _, _, _]) (i := 4) rfl ts_42 rfl rfl rfl rfl rfl (Nat.le_of_ble_eq_true rfl) rfl ?_)) | (refine AOps.st0 rfl rfl (op_store (cs' := [_, _, _, _, _, _, _, _, _, _, _, _, _, _, _, _, _]) (i := 5) rfl ts_42 rfl rfl rfl rfl rfl (Nat.le_of_ble_eq_true rfl) rfl ?_)) | (refine AOps.st0 rfl rfl (op_store (cs' := [_, _, _, _, _, _, _, _, _, _, _, _, _, _, _, _, _]) (i := 6) rfl ts_42 rfl rfl rfl rfl rfl (Nat.le_of_ble_eq_true rfl) rfl ?_)) | (refine AOps.st0 rfl rfl (op_store (cs' := [_, _, _, _, _, _, _, _, _, _, _, _, _, _, _, _, _]) (i := 7) rfl ts_42 rfl rfl rfl rfl rfl (Nat.le_of_ble_eq_true rfl) rfl ?_)) | (refine AOps.st0 rfl rfl (op_store (cs' := [_, _, _, _, _, _, _, _, _, _, _, _, _, _, _, _, _]) (i := 8) rfl ts_42 rfl rfl rfl rfl rfl (Nat.le_of_ble_eq_true rfl) rfl ?_)) | (refine AOps.st0 rfl rfl (op_store (cs' := [_, _, _, _, _, _, _, _, _, _, _, _, _, _, _, _, _]) (i := 9) rfl ts_42 rfl rfl rfl rfl rfl (Nat.le_of_ble_eq_true rfl) rfl ?_))
    refine AOps.nil ?_
    refine go_code ?_
    refine c_seq ?_
    refine c_region ?_
    first | (refine AOps.st 33 rfl rfl rfl (op_fieldAddr_m rfl tf_42_3 rfl ?_)) | (refine AOps.st 33 rfl rfl rfl (op_fieldAddr_c rfl tf_42_3 rfl rfl ?_))
    first | (refine AOps.st 34 rfl rfl rfl (op_fieldAddr_m rfl tf_36_0 rfl ?_)) | (refine AOps.st 34 rfl rfl rfl (op_fieldAddr_c rfl tf_36_0 rfl rfl ?_))
    first | (refine AOps.st 35 rfl rfl rfl (op_load_m1 (i := 0) rfl ta_3 rfl rfl rfl ?_)) | (refine AOps.st 35 rfl rfl rfl (op_load_m1 (i := 1) rfl ta_3 rfl rfl rfl ?_)) | (refine AOps.st 35 rfl rfl rfl (op_load_m1 (i := 2) rfl ta_3 rfl rfl rfl ?_)) | (refine AOps.st 35 rfl rfl rfl (op_load_m1 (i := 3) rfl ta_3 rfl rfl rfl ?_)) | (refine AOps.st 35 rfl rfl rfl (op_load_m1 (i := 4) rfl ta_3 rfl rfl rfl ?_)) | (refine AOps.st 35 rfl rfl rfl (op_load_m1 (i := 5) rfl ta_3 rfl rfl rfl ?_)) | (refine AOps.st 35 rfl rfl rfl (op_load_m1 (i := 6) rfl ta_3 rfl rfl rfl ?_)) | (refine AOps.st 35 rfl rfl rfl (op_load_m1 (i := 7) rfl ta_3 rfl rfl rfl ?_)) | (refine AOps.st 35 rfl rfl rfl (op_load_m1 (i := 8) rfl ta_3 rfl rfl rfl ?_)) | (refine AOps.st 35 rfl rfl rfl (op_load_m1 (i := 9) rfl ta_3 rfl rfl rfl ?_)) | (refine AOps.st 35 rfl rfl rfl (op_load_c1 rfl ta_3 rfl rfl ?_))
    refine AOps.st 36 rfl rfl rfl (op_eql rfl rfl rfl ?_); intro c36 h36
    refine AOps.st 37 rfl rfl rfl (op_move rfl rfl ?_)
    rcases bool_split h36 with ⟨rfl, g36⟩ | ⟨rfl, g36⟩
    · skip
      first | (refine AOps.gt 38 rfl rfl rfl rfl rfl (op_fieldAddr_m rfl tf_42_3 rfl ?_)) | (refine AOps.gt 38 rfl rfl rfl rfl rfl (op_fieldAddr_c rfl tf_42_3 rfl rfl ?_))
      first | (refine AOps.gt 39 rfl rfl rfl rfl rfl (op_fieldAddr_m rfl tf_36_0 rfl ?_)) | (refine AOps.gt 39 rfl rfl rfl rfl rfl (op_fieldAddr_c rfl tf_36_0 rfl rfl ?_))
      first | (refine AOps.gt 40 rfl rfl rfl rfl rfl (op_load_m1 (i := 0) rfl ta_3 rfl rfl rfl ?_)) | (refine AOps.gt 40 rfl rfl rfl rfl rfl (op_load_m1 (i := 1) rfl ta_3 rfl rfl rfl ?_)) | (refine AOps.gt 40 rfl rfl rfl rfl rfl (op_load_m1 (i := 2) rfl ta_3 rfl rfl rfl ?_)) | (refine AOps.gt 40 rfl rfl rfl rfl rfl (op_load_m1 (i := 3) rfl ta_3 rfl rfl rfl ?_)) | (refine AOps.gt 40 rfl rfl rfl rfl rfl (op_load_m1 (i := 4) rfl ta_3 rfl rfl rfl ?_)) | (refine AOps.gt 40 rfl rfl rfl rfl rfl (op_load_m1 (i := 5) rfl ta_3 rfl rfl rfl ?_)) | (refine AOps.gt 40 rfl rfl rfl rfl rfl (op_load_m1 (i := 6) rfl ta_3 rfl rfl rfl ?_)) | (refine AOps.gt 40 rfl rfl rfl rfl rfl (op_load_m1 (i := 7) rfl ta_3 rfl rfl rfl ?_)) | (refine AOps.gt 40 rfl rfl rfl rfl rfl (op_load_m1 (i := 8) rfl ta_3 rfl rfl rfl ?_)) | (refine AOps.gt 40 rfl rfl rfl rfl rfl (op_load_m1 (i := 9) rfl ta_3 rfl rfl rfl ?_)) | (refine AOps.gt 40 rfl rfl rfl rfl rfl (op_load_c1 rfl ta_3 rfl rfl ?_))
      refine AOps.gt 41 rfl rfl rfl rfl rfl (op_eql rfl rfl rfl ?_); intro c41 h41
      refine AOps.st 42 rfl rfl rfl (op_pick rfl rfl rfl ?_)
      refine AOps.st 43 rfl rfl rfl (op_build (ns := [1]) (xs := [.tmp 42]) rfl tz_71 rfl tfl_71 rfl rfl rfl rfl ?_)
      refine AOps.st 44 rfl rfl rfl (op_boxe (cs' := [_, _, _, _, _, _, _, _, _]) rfl rfl rfl rfl ?_); intro b44
      refine AOps.st 11 rfl rfl rfl (op_assign rfl rfl ?_)
      refine AOps.nil ?_
      obtain rfl : c41 = false := by
        cases c41 with
        | false => rfl
        | true => exact absurd (h41.1 rfl) (by decide)
      refine go_code ?_
      refine c_seq ?_
      refine c_region ?_
      refine AOps.st 45 rfl rfl rfl (op_move rfl rfl ?_)
      refine AOps.st 46 rfl rfl rfl (op_move rfl rfl ?_)
      first | (refine AOps.st 47 rfl rfl rfl (op_nilCheck_m rfl rfl ?_)) | (refine AOps.st 47 rfl rfl rfl (op_nilCheck_c rfl rfl ?_)) | (refine AOps.st 47 rfl rfl rfl (op_nilCheck_f rfl rfl ?_))
      first | (refine AOps.st 48 rfl rfl rfl (op_fieldAddr_m rfl tf_57_0 rfl ?_)) | (refine AOps.st 48 rfl rfl rfl (op_fieldAddr_c rfl tf_57_0 rfl rfl ?_))
      first | (refine AOps.st 49 rfl rfl rfl (op_load_m1 (i := 0) rfl ta_55 rfl rfl rfl ?_)) | (refine AOps.st 49 rfl rfl rfl (op_load_m1 (i := 1) rfl ta_55 rfl rfl rfl ?_)) | (refine AOps.st 49 rfl rfl rfl (op_load_m1 (i := 2) rfl ta_55 rfl rfl rfl ?_)) | (refine AOps.st 49 rfl rfl rfl (op_load_m1 (i := 3) rfl ta_55 rfl rfl rfl ?_)) | (refine AOps.st 49 rfl rfl rfl (op_load_m1 (i := 4) rfl ta_55 rfl rfl rfl ?_)) | (refine AOps.st 49 rfl rfl rfl (op_load_m1 (i := 5) rfl ta_55 rfl rfl rfl ?_)) | (refine AOps.st 49 rfl rfl rfl (op_load_m1 (i := 6) rfl ta_55 rfl rfl rfl ?_)) | (refine AOps.st 49 rfl rfl rfl (op_load_m1 (i := 7) rfl ta_55 rfl rfl rfl ?_)) | (refine AOps.st 49 rfl rfl rfl (op_load_m1 (i := 8) rfl ta_55 rfl rfl rfl ?_)) | (refine AOps.st 49 rfl rfl rfl (op_load_m1 (i := 9) rfl ta_55 rfl rfl rfl ?_)) | (refine AOps.st 49 rfl rfl rfl (op_load_c1 rfl ta_55 rfl rfl ?_))
      refine AOps.st 50 rfl rfl rfl (op_move rfl rfl ?_)
      refine AOps.st 51 rfl rfl rfl (op_buildSlice (xs := [.tmp 50]) el_55 rfl rfl rfl rfl rfl rfl (Nat.le_of_ble_eq_true rfl) ?_)
      first | (refine AOps.st 52 rfl rfl rfl (op_append (i := 0) el_55 rfl rfl rfl rfl (.seq _ _) (by first | (simp; done) | (simp; omega) | omega) ?_)) | (refine AOps.st 52 rfl rfl rfl (op_append (i := 1) el_55 rfl rfl rfl rfl (.seq _ _) (by first | (simp; done) | (simp; omega) | omega) ?_)) | (refine AOps.st 52 rfl rfl rfl (op_append (i := 2) el_55 rfl rfl rfl rfl (.seq _ _) (by first | (simp; done) | (simp; omega) | omega) ?_)) | (refine AOps.st 52 rfl rfl rfl (op_append (i := 3) el_55 rfl rfl rfl rfl (.seq _ _) (by first | (simp; done) | (simp; omega) | omega) ?_)) | (refine AOps.st 52 rfl rfl rfl (op_append (i := 4) el_55 rfl rfl rfl rfl (.seq _ _) (by first | (simp; done) | (simp; omega) | omega) ?_)) | (refine AOps.st 52 rfl rfl rfl (op_append (i := 5) el_55 rfl rfl rfl rfl (.seq _ _) (by first | (simp; done) | (simp; omega) | omega) ?_)) | (refine AOps.st 52 rfl rfl rfl (op_append (i := 6) el_55 rfl rfl rfl rfl (.seq _ _) (by first | (simp; done) | (simp; omega) | omega) ?_)) | (refine AOps.st 52 rfl rfl rfl (op_append (i := 7) el_55 rfl rfl rfl rfl (.seq _ _) (by first | (simp; done) | (simp; omega) | omega) ?_)) | (refine AOps.st 52 rfl rfl rfl (op_append (i := 8) el_55 rfl rfl rfl rfl (.seq _ _) (by first | (simp; done) | (simp; omega) | omega) ?_)) | (refine AOps.st 52 rfl rfl rfl (op_append (i := 0) el_55 rfl rfl rfl rfl (.own _ _ _) (by first | (simp; done) | (simp; omega) | omega) ?_)) | (refine AOps.st 52 rfl rfl rfl (op_append (i := 1) el_55 rfl rfl rfl rfl (.own _ _ _) (by first | (simp; done) | (simp; omega) | omega) ?_)) | (refine AOps.st 52 rfl rfl rfl (op_append (i := 2) el_55 rfl rfl rfl rfl (.own _ _ _) (by first | (simp; done) | (simp; omega) | omega) ?_)) | (refine AOps.st 52 rfl rfl rfl (op_append (i := 3) el_55 rfl rfl rfl rfl (.own _ _ _) (by first | (simp; done) | (simp; omega) | omega) ?_)) | (refine AOps.st 52 rfl rfl rfl (op_append (i := 4) el_55 rfl rfl rfl rfl (.own _ _ _) (by first | (simp; done) | (simp; omega) | omega) ?_)) | (refine AOps.st 52 rfl rfl rfl (op_append (i := 5) el_55 rfl rfl rfl rfl (.own _ _ _) (by first | (simp; done) | (simp; omega) | omega) ?_)) | (refine AOps.st 52 rfl rfl rfl (op_append (i := 6) el_55 rfl rfl rfl rfl (.own _ _ _) (by first | (simp; done) | (simp; omega) | omega) ?_)) | (refine AOps.st 52 rfl rfl rfl (op_append (i := 7) el_55 rfl rfl rfl rfl (.own _ _ _) (by first | (simp; done) | (simp; omega) | omega) ?_)) | (refine AOps.st 52 rfl rfl rfl (op_append (i := 8) el_55 rfl rfl rfl rfl (.own _ _ _) (by first | (simp; done) | (simp; omega) | omega) ?_)) | (refine AOps.st 52 rfl rfl rfl (op_append (i := 0) el_55 rfl rfl rfl rfl (.nil _) (by first | (simp; done) | (simp; omega) | omega) ?_)) | (refine AOps.st 52 rfl rfl rfl (op_append (i := 1) el_55 rfl rfl rfl rfl (.nil _) (by first | (simp; done) | (simp; omega) | omega) ?_)) | (refine AOps.st 52 rfl rfl rfl (op_append (i := 2) el_55 rfl rfl rfl rfl (.nil _) (by first | (simp; done) | (simp; omega) | omega) ?_)) | (refine AOps.st 52 rfl rfl rfl (op_append (i := 3) el_55 rfl rfl rfl rfl (.nil _) (by first | (simp; done) | (simp; omega) | omega) ?_)) | (refine AOps.st 52 rfl rfl rfl (op_append (i := 4) el_55 rfl rfl rfl rfl (.nil _) (by first | (simp; done) | (simp; omega) | omega) ?_)) | (refine AOps.st 52 rfl rfl rfl (op_append (i := 5) el_55 rfl rfl rfl rfl (.nil _) (by first | (simp; done) | (simp; omega) | omega) ?_)) | (refine AOps.st 52 rfl rfl rfl (op_append (i := 6) el_55 rfl rfl rfl rfl (.nil _) (by first | (simp; done) | (simp; omega) | omega) ?_)) | (refine AOps.st 52 rfl rfl rfl (op_append (i := 7) el_55 rfl rfl rfl rfl (.nil _) (by first | (simp; done) | (simp; omega) | omega) ?_)) | (refine AOps.st 52 rfl rfl rfl (op_append (i := 8) el_55 rfl rfl rfl rfl (.nil _) (by first | (simp; done) | (simp; omega) | omega) ?_)) | (refine AOps.st 52 rfl rfl rfl (op_append_nil el_55 rfl rfl rfl (.seq _ _) (by first | (simp; done) | (simp; omega) | omega) ?_)) | (refine AOps.st 52 rfl rfl rfl (op_append_nil el_55 rfl rfl rfl (.own _ _ _) (by first | (simp; done) | (simp; omega) | omega) ?_)) | (refine AOps.st 52 rfl rfl rfl (op_append_nil el_55 rfl rfl rfl (.nil _) (by first | (simp; done) | (simp; omega) | omega) ?_))
      intro u52
      first | (refine AOps.st 53 rfl rfl rfl (op_nilCheck_m rfl rfl ?_)) | (refine AOps.st 53 rfl rfl rfl (op_nilCheck_c rfl rfl ?_)) | (refine AOps.st 53 rfl rfl rfl (op_nilCheck_f rfl rfl ?_))
      first | (refine AOps.st 54 rfl rfl rfl (op_fieldAddr_m rfl tf_57_0 rfl ?_)) | (refine AOps.st 54 rfl rfl rfl (op_fieldAddr_c rfl tf_57_0 rfl rfl ?_))
      first | (refine AOps.st0 rfl rfl (op_store (i := 0) rfl ts_55 rfl rfl rfl rfl rfl (Nat.le_of_ble_eq_true rfl) rfl ?_)) | (refine AOps.st0 rfl rfl (op_store (i := 1) rfl ts_55 rfl rfl rfl rfl rfl (Nat.le_of_ble_eq_true rfl) rfl ?_)) | (refine AOps.st0 rfl rfl (op_store (i := 2) rfl ts_55 rfl rfl rfl rfl rfl (Nat.le_of_ble_eq_true rfl) rfl ?_)) | (refine AOps.st0 rfl rfl (op_store (i := 3) rfl ts_55 rfl rfl rfl rfl rfl (Nat.le_of_ble_eq_true rfl) rfl ?_)) | (refine AOps.st0 rfl rfl (op_store (i := 4) rfl ts_55 rfl rfl rfl rfl rfl (Nat.le_of_ble_eq_true rfl) rfl ?_)) | (refine AOps.st0 rfl rfl (op_store (i := 5) rfl ts_55 rfl rfl rfl rfl rfl (Nat.le_of_ble_eq_true rfl) rfl ?_)) | (refine AOps.st0 rfl rfl (op_store (i := 6) rfl ts_55 rfl rfl rfl rfl rfl (Nat.le_of_ble_eq_true rfl) rfl ?_)) | (refine AOps.st0 rfl rfl (op_store (i := 7) rfl ts_55 rfl rfl rfl rfl rfl (Nat.le_of_ble_eq_true rfl) rfl ?_)) | (refine AOps.st0 rfl rfl (op_store (i := 8) rfl ts_55 rfl rfl rfl rfl rfl (Nat.le_of_ble_eq_true rfl) rfl ?_)) | (refine AOps.st0 rfl rfl (op_store (i := 9) rfl ts_55 rfl rfl rfl rfl rfl (Nat.le_of_ble_eq_true rfl) rfl ?_))
      refine AOps.nil ?_
      refine go_code ?_
      refine c_seq ?_
      refine c_drawn tmix rfl ?_
      refine DOps.st 56 rfl rfl (op_move rfl rfl ⟨rfl, rfl⟩) ?_
      first | (refine DOps.st 57 rfl rfl (op_nilCheck_m rfl rfl ⟨rfl, rfl⟩) ?_) | (refine DOps.st 57 rfl rfl (op_nilCheck_c rfl rfl ⟨rfl, rfl⟩) ?_) | (refine DOps.st 57 rfl rfl (op_nilCheck_f rfl rfl ⟨rfl, rfl⟩) ?_)
      first | (refine DOps.st 58 rfl rfl (op_fieldAddr_m rfl tf_61_0 rfl ⟨rfl, rfl⟩) ?_) | (refine DOps.st 58 rfl rfl (op_fieldAddr_c rfl tf_61_0 rfl rfl ⟨rfl, rfl⟩) ?_)
      first | (refine DOps.st 59 rfl rfl (op_load_m1 (i := 0) rfl ta_59 rfl rfl rfl ⟨rfl, rfl⟩) ?_) | (refine DOps.st 59 rfl rfl (op_load_m1 (i := 1) rfl ta_59 rfl rfl rfl ⟨rfl, rfl⟩) ?_) | (refine DOps.st 59 rfl rfl (op_load_m1 (i := 2) rfl ta_59 rfl rfl rfl ⟨rfl, rfl⟩) ?_) | (refine DOps.st 59 rfl rfl (op_load_m1 (i := 3) rfl ta_59 rfl rfl rfl ⟨rfl, rfl⟩) ?_) | (refine DOps.st 59 rfl rfl (op_load_m1 (i := 4) rfl ta_59 rfl rfl rfl ⟨rfl, rfl⟩) ?_) | (refine DOps.st 59 rfl rfl (op_load_m1 (i := 5) rfl ta_59 rfl rfl rfl ⟨rfl, rfl⟩) ?_) | (refine DOps.st 59 rfl rfl (op_load_m1 (i := 6) rfl ta_59 rfl rfl rfl ⟨rfl, rfl⟩) ?_) | (refine DOps.st 59 rfl rfl (op_load_m1 (i := 7) rfl ta_59 rfl rfl rfl ⟨rfl, rfl⟩) ?_) | (refine DOps.st 59 rfl rfl (op_load_m1 (i := 8) rfl ta_59 rfl rfl rfl ⟨rfl, rfl⟩) ?_) | (refine DOps.st 59 rfl rfl (op_load_m1 (i := 9) rfl ta_59 rfl rfl rfl ⟨rfl, rfl⟩) ?_) | (refine DOps.st 59 rfl rfl (op_load_c1 rfl ta_59 rfl rfl ⟨rfl, rfl⟩) ?_)
      first | (refine DOps.st 60 rfl rfl (op_fieldAddr_m rfl tf_42_0 rfl ⟨rfl, rfl⟩) ?_) | (refine DOps.st 60 rfl rfl (op_fieldAddr_c rfl tf_42_0 rfl rfl ⟨rfl, rfl⟩) ?_)
      first | (refine DOps.st 61 rfl rfl (op_load_m1 (i := 0) rfl ta_9 rfl rfl rfl ⟨rfl, rfl⟩) ?_) | (refine DOps.st 61 rfl rfl (op_load_m1 (i := 1) rfl ta_9 rfl rfl rfl ⟨rfl, rfl⟩) ?_) | (refine DOps.st 61 rfl rfl (op_load_m1 (i := 2) rfl ta_9 rfl rfl rfl ⟨rfl, rfl⟩) ?_) | (refine DOps.st 61 rfl rfl (op_load_m1 (i := 3) rfl ta_9 rfl rfl rfl ⟨rfl, rfl⟩) ?_) | (refine DOps.st 61 rfl rfl (op_load_m1 (i := 4) rfl ta_9 rfl rfl rfl ⟨rfl, rfl⟩) ?_) | (refine DOps.st 61 rfl rfl (op_load_m1 (i := 5) rfl ta_9 rfl rfl rfl ⟨rfl, rfl⟩) ?_) | (refine DOps.st 61 rfl rfl (op_load_m1 (i := 6) rfl ta_9 rfl rfl rfl ⟨rfl, rfl⟩) ?_) | (refine DOps.st 61 rfl rfl (op_load_m1 (i := 7) rfl ta_9 rfl rfl rfl ⟨rfl, rfl⟩) ?_) | (refine DOps.st 61 rfl rfl (op_load_m1 (i := 8) rfl ta_9 rfl rfl rfl ⟨rfl, rfl⟩) ?_) | (refine DOps.st 61 rfl rfl (op_load_m1 (i := 9) rfl ta_9 rfl rfl rfl ⟨rfl, rfl⟩) ?_) | (refine DOps.st 61 rfl rfl (op_load_c1 rfl ta_9 rfl rfl ⟨rfl, rfl⟩) ?_)
      refine DOps.st 62 rfl rfl (op_lookup_ok (i := 3) rfl tm_59 tu_9 tz_62 rfl rfl rfl ⟨rfl, rfl⟩) ?_
      refine DOps.st 55 rfl rfl (op_move rfl rfl ⟨rfl, rfl⟩) ?_
      refine DOps.st 63 rfl rfl (op_extract rfl rfl rfl ⟨rfl, rfl⟩) ?_
      refine DOps.st 64 rfl rfl (op_extract rfl rfl rfl ⟨rfl, rfl⟩) ?_
      refine DOps.st 12 rfl rfl (op_assign rfl rfl ⟨rfl, rfl⟩) ?_
      refine DOps.st 13 rfl rfl (op_assign rfl rfl ⟨rfl, rfl⟩) ?_
      show AGo _ _ _ _ _ _ _
      refine go_code ?_
      refine c_seq ?_
      refine c_region ?_
      refine AOps.st 65 rfl rfl rfl (op_move rfl rfl ?_)
      refine AOps.st 66 rfl rfl rfl (op_notc rfl rfl ?_); intro c66 h66
      try replace h66 := nott h66 h64
      refine AOps.nil ?_
      refine go_code ?_
      rcases bool_split h66 with ⟨rfl, g66⟩ | ⟨rfl, g66⟩
      · first | exact absurd rfl g66 | simp_all
      · refine c_cond_t rfl ?_
        refine c_drawnE [0, 1, 2, 3, 4, 5, 6, 7] [7] [[], [0], [0, 1], [0, 1, 2], [], [4], [], [0, 1, 2, 3, 4, 5, 6]] tmix rfl ?_
        refine EOps.d 67 (none) (i := 0) rfl rfl rfl rfl rfl (op_move rfl rfl ⟨rfl, rfl⟩) ?_
        first | (refine EOps.d 68 (none) (i := 1) rfl rfl rfl rfl rfl (op_nilCheck_m rfl rfl ⟨rfl, rfl⟩) ?_) | (refine EOps.d 68 (none) (i := 1) rfl rfl rfl rfl rfl (op_nilCheck_c rfl rfl ⟨rfl, rfl⟩) ?_) | (refine EOps.d 68 (none) (i := 1) rfl rfl rfl rfl rfl (op_nilCheck_f rfl rfl ⟨rfl, rfl⟩) ?_)
        first | (refine EOps.d 69 (none) (i := 2) rfl rfl rfl rfl rfl (op_fieldAddr_m rfl tf_61_0 rfl ⟨rfl, rfl⟩) ?_) | (refine EOps.d 69 (none) (i := 2) rfl rfl rfl rfl rfl (op_fieldAddr_c rfl tf_61_0 rfl rfl ⟨rfl, rfl⟩) ?_)
        first | (refine EOps.d 70 (some 0) (i := 3) rfl rfl rfl rfl rfl (op_load_m1 (i := 0) rfl ta_59 rfl rfl rfl ⟨rfl, rfl⟩) ?_) | (refine EOps.d 70 (some 1) (i := 3) rfl rfl rfl rfl rfl (op_load_m1 (i := 0) rfl ta_59 rfl rfl rfl ⟨rfl, rfl⟩) ?_) | (refine EOps.d 70 (some 2) (i := 3) rfl rfl rfl rfl rfl (op_load_m1 (i := 0) rfl ta_59 rfl rfl rfl ⟨rfl, rfl⟩) ?_) | (refine EOps.d 70 (some 3) (i := 3) rfl rfl rfl rfl rfl (op_load_m1 (i := 0) rfl ta_59 rfl rfl rfl ⟨rfl, rfl⟩) ?_) | (refine EOps.d 70 (some 4) (i := 3) rfl rfl rfl rfl rfl (op_load_m1 (i := 0) rfl ta_59 rfl rfl rfl ⟨rfl, rfl⟩) ?_) | (refine EOps.d 70 (some 5) (i := 3) rfl rfl rfl rfl rfl (op_load_m1 (i := 0) rfl ta_59 rfl rfl rfl ⟨rfl, rfl⟩) ?_) | (refine EOps.d 70 (some 6) (i := 3) rfl rfl rfl rfl rfl (op_load_m1 (i := 0) rfl ta_59 rfl rfl rfl ⟨rfl, rfl⟩) ?_) | (refine EOps.d 70 (some 7) (i := 3) rfl rfl rfl rfl rfl (op_load_m1 (i := 0) rfl ta_59 rfl rfl rfl ⟨rfl, rfl⟩) ?_) | (refine EOps.d 70 (some 8) (i := 3) rfl rfl rfl rfl rfl (op_load_m1 (i := 0) rfl ta_59 rfl rfl rfl ⟨rfl, rfl⟩) ?_) | (refine EOps.d 70 (some 9) (i := 3) rfl rfl rfl rfl rfl (op_load_m1 (i := 0) rfl ta_59 rfl rfl rfl ⟨rfl, rfl⟩) ?_) | (refine EOps.d 70 (none) (i := 3) rfl rfl rfl rfl rfl (op_load_c1 rfl ta_59 rfl rfl ⟨rfl, rfl⟩) ?_)
        first | (refine EOps.d 71 (none) (i := 4) rfl rfl rfl rfl rfl (op_fieldAddr_m rfl tf_42_0 rfl ⟨rfl, rfl⟩) ?_) | (refine EOps.d 71 (none) (i := 4) rfl rfl rfl rfl rfl (op_fieldAddr_c rfl tf_42_0 rfl rfl ⟨rfl, rfl⟩) ?_)
        first | (refine EOps.d 72 (some 0) (i := 5) rfl rfl rfl rfl rfl (op_load_m1 (i := 0) rfl ta_9 rfl rfl rfl ⟨rfl, rfl⟩) ?_) | (refine EOps.d 72 (some 1) (i := 5) rfl rfl rfl rfl rfl (op_load_m1 (i := 0) rfl ta_9 rfl rfl rfl ⟨rfl, rfl⟩) ?_) | (refine EOps.d 72 (some 2) (i := 5) rfl rfl rfl rfl rfl (op_load_m1 (i := 0) rfl ta_9 rfl rfl rfl ⟨rfl, rfl⟩) ?_) | (refine EOps.d 72 (some 3) (i := 5) rfl rfl rfl rfl rfl (op_load_m1 (i := 0) rfl ta_9 rfl rfl rfl ⟨rfl, rfl⟩) ?_) | (refine EOps.d 72 (some 4) (i := 5) rfl rfl rfl rfl rfl (op_load_m1 (i := 0) rfl ta_9 rfl rfl rfl ⟨rfl, rfl⟩) ?_) | (refine EOps.d 72 (some 5) (i := 5) rfl rfl rfl rfl rfl (op_load_m1 (i := 0) rfl ta_9 rfl rfl rfl ⟨rfl, rfl⟩) ?_) | (refine EOps.d 72 (some 6) (i := 5) rfl rfl rfl rfl rfl (op_load_m1 (i := 0) rfl ta_9 rfl rfl rfl ⟨rfl, rfl⟩) ?_) | (refine EOps.d 72 (some 7) (i := 5) rfl rfl rfl rfl rfl (op_load_m1 (i := 0) rfl ta_9 rfl rfl rfl ⟨rfl, rfl⟩) ?_) | (refine EOps.d 72 (some 8) (i := 5) rfl rfl rfl rfl rfl (op_load_m1 (i := 0) rfl ta_9 rfl rfl rfl ⟨rfl, rfl⟩) ?_) | (refine EOps.d 72 (some 9) (i := 5) rfl rfl rfl rfl rfl (op_load_m1 (i := 0) rfl ta_9 rfl rfl rfl ⟨rfl, rfl⟩) ?_) | (refine EOps.d 72 (none) (i := 5) rfl rfl rfl rfl rfl (op_load_c1 rfl ta_9 rfl rfl ⟨rfl, rfl⟩) ?_)
        refine EOps.d 73 (none) (i := 6) rfl rfl rfl rfl rfl (op_move rfl rfl ⟨rfl, rfl⟩) ?_
        refine EOps.w 3 (i := 7) rfl rfl rfl rfl rfl (op_mapput (i := 0) rfl tm_59 tu_9 rfl rfl rfl rfl ⟨_, rfl, ?_⟩)
        show AGo _ _ _ _ _ _ _
        refine go_blk ?_
        refine go_code ?_
        refine c_region ?_
        first | (refine AOps.st 74 rfl rfl rfl (op_add rfl rfl rfl (IntWalk.i64_in _ (by omega)) ?_)) | (refine AOps.st 74 rfl rfl rfl (op_add rfl rfl rfl rfl ?_))
        refine AOps.st 29 rfl rfl rfl (op_move rfl rfl ?_)
        refine AOps.nil ?_
        refine go_lp ?_
        exact ⟨(1, b44), Nat.le_refl 1, (show 1 - 1 < 1 - 0 by decide), (by repeat' (first | exact SLe.nil _ | refine SLe.cons rfl ?_ ?_ | exact Le.refl _ | exact Le.own _ _ _ | exact Le.nil _)), MLe.drop _ (MLe.cons _ (MLe.drop _ (MLe.cons _ (MLe.loc _ (Les.cons (Le.own _ _ _) (Les.refl _)) (MLe.cons _ MLe.nil)))))⟩
    · exact absurd g36 (by decide)
end Go.Proofs.Ytflkdojahfmbnaa
