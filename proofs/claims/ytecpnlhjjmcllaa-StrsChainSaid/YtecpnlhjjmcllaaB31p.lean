/- heap: space.put, Alloc. -/
import Derived.Test.YtecpnlhjjmcllaaB31l
namespace Go.Proofs.Ytecpnlhjjmcllaa
open Go.RowKit
set_option maxHeartbeats 4000000 in
set_option maxRecDepth 100000 in
theorem put_false (b : Nat) (s n x y : AV) (gw cw gb cb k : Nat) (EW EB ps : List (List AV)) (hd : Int) (hW : EW.length = k) (hB : EB.length = k) (hk : 0 < k) (hm : k + ps.length ≤ 1000000000) : ACall Try.prog 49 [.ptr b 1, .val (.int .u64 hd), .seq 1 ps] [.loc b (spc false s n (.val (rowv gw k cw)) (.val (rowv gb k cb)) x y), .row 42 1 (rowv gw k cw) EW, .row 4 1 (rowv gb k cb) EB]
    (fun v M' => v = .val (.int .i64 k) ∧ ∃ gw' cw' gb' cb', M' = [.loc b (spc false s n (.val (rowv gw' (k + 1 + ps.length) cw')) (.val (rowv gb' (k + 1 + ps.length) cb')) x y), .row 42 1 (rowv gw' (k + 1 + ps.length) cw') (EW ++ iv hd :: ps), .row 4 1 (rowv gb' (k + 1 + ps.length) cb') (EB ++ bv true :: List.replicate ps.length (bv false))]) := by
  subst hW
  refine ACall.enter Try.func49 rfl (by kernel_rfl) rfl (Nat.le_of_ble_eq_true rfl) ?_
  refine c_start ?_
  refine c_seq ?_
  refine c_region ?_
  refine AOps.st 6 rfl rfl rfl (op_assign rfl rfl ?_)
  refine AOps.nil ?_
  refine go_code ?_
  refine c_seq ?_
  refine c_region ?_
  refine AOps.st 8 rfl rfl rfl (op_move rfl rfl ?_)
  first | (refine AOps.st 9 rfl rfl rfl (op_nilCheck_m rfl rfl ?_)) | (refine AOps.st 9 rfl rfl rfl (op_nilCheck_c rfl rfl ?_)) | (refine AOps.st 9 rfl rfl rfl (op_nilCheck_f rfl rfl ?_))
  first | (refine AOps.st 10 rfl rfl rfl (op_fieldAddr_m rfl tf_77_0 rfl ?_)) | (refine AOps.st 10 rfl rfl rfl (op_fieldAddr_c rfl tf_77_0 rfl rfl ?_))
  first | (refine AOps.st 11 rfl rfl rfl (op_load_m1 (i := 0) rfl ta_34 rfl rfl rfl ?_)) | (refine AOps.st 11 rfl rfl rfl (op_load_m1 (i := 1) rfl ta_34 rfl rfl rfl ?_)) | (refine AOps.st 11 rfl rfl rfl (op_load_m1 (i := 2) rfl ta_34 rfl rfl rfl ?_)) | (refine AOps.st 11 rfl rfl rfl (op_load_m1 (i := 3) rfl ta_34 rfl rfl rfl ?_)) | (refine AOps.st 11 rfl rfl rfl (op_load_m1 (i := 4) rfl ta_34 rfl rfl rfl ?_)) | (refine AOps.st 11 rfl rfl rfl (op_load_m1 (i := 5) rfl ta_34 rfl rfl rfl ?_)) | (refine AOps.st 11 rfl rfl rfl (op_load_m1 (i := 6) rfl ta_34 rfl rfl rfl ?_)) | (refine AOps.st 11 rfl rfl rfl (op_load_m1 (i := 7) rfl ta_34 rfl rfl rfl ?_)) | (refine AOps.st 11 rfl rfl rfl (op_load_m1 (i := 8) rfl ta_34 rfl rfl rfl ?_)) | (refine AOps.st 11 rfl rfl rfl (op_load_m1 (i := 9) rfl ta_34 rfl rfl rfl ?_)) | (refine AOps.st 11 rfl rfl rfl (op_load_c1 rfl ta_34 rfl rfl ?_))
  refine AOps.st 12 rfl rfl rfl (op_len_val rfl tu_34 rfl ?_)
  refine AOps.st 7 rfl rfl rfl (op_assign rfl rfl ?_)
  refine AOps.nil ?_
  refine go_code ?_
  refine c_seq ?_
  refine c_region ?_
  refine AOps.st 13 rfl rfl rfl (op_move rfl rfl ?_)
  refine AOps.st 14 rfl rfl rfl (op_move rfl rfl ?_)
  first | (refine AOps.st 15 rfl rfl rfl (op_nilCheck_m rfl rfl ?_)) | (refine AOps.st 15 rfl rfl rfl (op_nilCheck_c rfl rfl ?_)) | (refine AOps.st 15 rfl rfl rfl (op_nilCheck_f rfl rfl ?_))
  first | (refine AOps.st 16 rfl rfl rfl (op_fieldAddr_m rfl tf_77_0 rfl ?_)) | (refine AOps.st 16 rfl rfl rfl (op_fieldAddr_c rfl tf_77_0 rfl rfl ?_))
  first | (refine AOps.st 17 rfl rfl rfl (op_load_m1 (i := 0) rfl ta_34 rfl rfl rfl ?_)) | (refine AOps.st 17 rfl rfl rfl (op_load_m1 (i := 1) rfl ta_34 rfl rfl rfl ?_)) | (refine AOps.st 17 rfl rfl rfl (op_load_m1 (i := 2) rfl ta_34 rfl rfl rfl ?_)) | (refine AOps.st 17 rfl rfl rfl (op_load_m1 (i := 3) rfl ta_34 rfl rfl rfl ?_)) | (refine AOps.st 17 rfl rfl rfl (op_load_m1 (i := 4) rfl ta_34 rfl rfl rfl ?_)) | (refine AOps.st 17 rfl rfl rfl (op_load_m1 (i := 5) rfl ta_34 rfl rfl rfl ?_)) | (refine AOps.st 17 rfl rfl rfl (op_load_m1 (i := 6) rfl ta_34 rfl rfl rfl ?_)) | (refine AOps.st 17 rfl rfl rfl (op_load_m1 (i := 7) rfl ta_34 rfl rfl rfl ?_)) | (refine AOps.st 17 rfl rfl rfl (op_load_m1 (i := 8) rfl ta_34 rfl rfl rfl ?_)) | (refine AOps.st 17 rfl rfl rfl (op_load_m1 (i := 9) rfl ta_34 rfl rfl rfl ?_)) | (refine AOps.st 17 rfl rfl rfl (op_load_c1 rfl ta_34 rfl rfl ?_))
  refine AOps.st 18 rfl rfl rfl (op_move rfl rfl ?_)
  refine AOps.st 19 rfl rfl rfl (op_buildSlice (xs := [.tmp 18]) el_34 rfl rfl rfl rfl rfl rfl (Nat.le_of_ble_eq_true rfl) ?_)
  first | (refine AOps.st 20 rfl rfl rfl (op_append_rowg (i := 1) el_34 rfl rfl rfl rfl (.seq _ _) (by first | (simp; done) | (simp; omega) | omega) (by first | (simp; done) | (simp; omega) | omega) ?_)) | (refine AOps.st 20 rfl rfl rfl (op_append_rowg (i := 1) el_34 rfl rfl rfl rfl (.own _ _ _) (by first | (simp; done) | (simp; omega) | omega) (by first | (simp; done) | (simp; omega) | omega) ?_)) | (refine AOps.st 20 rfl rfl rfl (op_append_rowg (i := 1) el_34 rfl rfl rfl rfl (.nil _) (by first | (simp; done) | (simp; omega) | omega) (by first | (simp; done) | (simp; omega) | omega) ?_))
  intro g20 a20
  refine AOps.st 21 rfl rfl rfl (op_move rfl rfl ?_)
  first | (refine AOps.st 22 rfl rfl rfl (op_append_rowg (i := 1) el_34 rfl rfl rfl rfl (.seq _ _) (by first | (simp; done) | (simp; omega) | omega) (by first | (simp; done) | (simp; omega) | omega) ?_)) | (refine AOps.st 22 rfl rfl rfl (op_append_rowg (i := 1) el_34 rfl rfl rfl rfl (.own _ _ _) (by first | (simp; done) | (simp; omega) | omega) (by first | (simp; done) | (simp; omega) | omega) ?_)) | (refine AOps.st 22 rfl rfl rfl (op_append_rowg (i := 1) el_34 rfl rfl rfl rfl (.nil _) (by first | (simp; done) | (simp; omega) | omega) (by first | (simp; done) | (simp; omega) | omega) ?_))
  intro g22 a22
  first | (refine AOps.st 23 rfl rfl rfl (op_nilCheck_m rfl rfl ?_)) | (refine AOps.st 23 rfl rfl rfl (op_nilCheck_c rfl rfl ?_)) | (refine AOps.st 23 rfl rfl rfl (op_nilCheck_f rfl rfl ?_))
  first | (refine AOps.st 24 rfl rfl rfl (op_fieldAddr_m rfl tf_77_0 rfl ?_)) | (refine AOps.st 24 rfl rfl rfl (op_fieldAddr_c rfl tf_77_0 rfl rfl ?_))
  first | (refine AOps.st0 rfl rfl (op_store (i := 0) rfl ts_34 rfl rfl rfl rfl rfl (Nat.le_of_ble_eq_true rfl) rfl ?_)) | (refine AOps.st0 rfl rfl (op_store (i := 1) rfl ts_34 rfl rfl rfl rfl rfl (Nat.le_of_ble_eq_true rfl) rfl ?_)) | (refine AOps.st0 rfl rfl (op_store (i := 2) rfl ts_34 rfl rfl rfl rfl rfl (Nat.le_of_ble_eq_true rfl) rfl ?_)) | (refine AOps.st0 rfl rfl (op_store (i := 3) rfl ts_34 rfl rfl rfl rfl rfl (Nat.le_of_ble_eq_true rfl) rfl ?_)) | (refine AOps.st0 rfl rfl (op_store (i := 4) rfl ts_34 rfl rfl rfl rfl rfl (Nat.le_of_ble_eq_true rfl) rfl ?_)) | (refine AOps.st0 rfl rfl (op_store (i := 5) rfl ts_34 rfl rfl rfl rfl rfl (Nat.le_of_ble_eq_true rfl) rfl ?_)) | (refine AOps.st0 rfl rfl (op_store (i := 6) rfl ts_34 rfl rfl rfl rfl rfl (Nat.le_of_ble_eq_true rfl) rfl ?_)) | (refine AOps.st0 rfl rfl (op_store (i := 7) rfl ts_34 rfl rfl rfl rfl rfl (Nat.le_of_ble_eq_true rfl) rfl ?_)) | (refine AOps.st0 rfl rfl (op_store (i := 8) rfl ts_34 rfl rfl rfl rfl rfl (Nat.le_of_ble_eq_true rfl) rfl ?_)) | (refine AOps.st0 rfl rfl (op_store (i := 9) rfl ts_34 rfl rfl rfl rfl rfl (Nat.le_of_ble_eq_true rfl) rfl ?_))
  refine AOps.nil ?_
  refine go_code ?_
  refine c_seq ?_
  refine c_region ?_
  refine AOps.st 25 rfl rfl rfl (op_move rfl rfl ?_)
  refine AOps.st 26 rfl rfl rfl (op_move rfl rfl ?_)
  first | (refine AOps.st 27 rfl rfl rfl (op_nilCheck_m rfl rfl ?_)) | (refine AOps.st 27 rfl rfl rfl (op_nilCheck_c rfl rfl ?_)) | (refine AOps.st 27 rfl rfl rfl (op_nilCheck_f rfl rfl ?_))
  first | (refine AOps.st 28 rfl rfl rfl (op_fieldAddr_m rfl tf_77_1 rfl ?_)) | (refine AOps.st 28 rfl rfl rfl (op_fieldAddr_c rfl tf_77_1 rfl rfl ?_))
  first | (refine AOps.st 29 rfl rfl rfl (op_load_m1 (i := 0) rfl ta_75 rfl rfl rfl ?_)) | (refine AOps.st 29 rfl rfl rfl (op_load_m1 (i := 1) rfl ta_75 rfl rfl rfl ?_)) | (refine AOps.st 29 rfl rfl rfl (op_load_m1 (i := 2) rfl ta_75 rfl rfl rfl ?_)) | (refine AOps.st 29 rfl rfl rfl (op_load_m1 (i := 3) rfl ta_75 rfl rfl rfl ?_)) | (refine AOps.st 29 rfl rfl rfl (op_load_m1 (i := 4) rfl ta_75 rfl rfl rfl ?_)) | (refine AOps.st 29 rfl rfl rfl (op_load_m1 (i := 5) rfl ta_75 rfl rfl rfl ?_)) | (refine AOps.st 29 rfl rfl rfl (op_load_m1 (i := 6) rfl ta_75 rfl rfl rfl ?_)) | (refine AOps.st 29 rfl rfl rfl (op_load_m1 (i := 7) rfl ta_75 rfl rfl rfl ?_)) | (refine AOps.st 29 rfl rfl rfl (op_load_m1 (i := 8) rfl ta_75 rfl rfl rfl ?_)) | (refine AOps.st 29 rfl rfl rfl (op_load_m1 (i := 9) rfl ta_75 rfl rfl rfl ?_)) | (refine AOps.st 29 rfl rfl rfl (op_load_c1 rfl ta_75 rfl rfl ?_))
  refine AOps.st 30 rfl rfl rfl (op_buildSlice (xs := [.const (.bool true)]) el_75 rfl rfl rfl rfl rfl rfl (Nat.le_of_ble_eq_true rfl) ?_)
  first | (refine AOps.st 31 rfl rfl rfl (op_append_rowg (i := 2) el_75 rfl rfl rfl rfl (.seq _ _) (by first | (simp; done) | (simp; omega) | omega) (by first | (simp; done) | (simp; omega) | omega) ?_)) | (refine AOps.st 31 rfl rfl rfl (op_append_rowg (i := 2) el_75 rfl rfl rfl rfl (.own _ _ _) (by first | (simp; done) | (simp; omega) | omega) (by first | (simp; done) | (simp; omega) | omega) ?_)) | (refine AOps.st 31 rfl rfl rfl (op_append_rowg (i := 2) el_75 rfl rfl rfl rfl (.nil _) (by first | (simp; done) | (simp; omega) | omega) (by first | (simp; done) | (simp; omega) | omega) ?_))
  intro g31 a31
  first | (refine AOps.st 32 rfl rfl rfl (op_nilCheck_m rfl rfl ?_)) | (refine AOps.st 32 rfl rfl rfl (op_nilCheck_c rfl rfl ?_)) | (refine AOps.st 32 rfl rfl rfl (op_nilCheck_f rfl rfl ?_))
  first | (refine AOps.st 33 rfl rfl rfl (op_fieldAddr_m rfl tf_77_1 rfl ?_)) | (refine AOps.st 33 rfl rfl rfl (op_fieldAddr_c rfl tf_77_1 rfl rfl ?_))
  first | (refine AOps.st0 rfl rfl (op_store (i := 0) rfl ts_75 rfl rfl rfl rfl rfl (Nat.le_of_ble_eq_true rfl) rfl ?_)) | (refine AOps.st0 rfl rfl (op_store (i := 1) rfl ts_75 rfl rfl rfl rfl rfl (Nat.le_of_ble_eq_true rfl) rfl ?_)) | (refine AOps.st0 rfl rfl (op_store (i := 2) rfl ts_75 rfl rfl rfl rfl rfl (Nat.le_of_ble_eq_true rfl) rfl ?_)) | (refine AOps.st0 rfl rfl (op_store (i := 3) rfl ts_75 rfl rfl rfl rfl rfl (Nat.le_of_ble_eq_true rfl) rfl ?_)) | (refine AOps.st0 rfl rfl (op_store (i := 4) rfl ts_75 rfl rfl rfl rfl rfl (Nat.le_of_ble_eq_true rfl) rfl ?_)) | (refine AOps.st0 rfl rfl (op_store (i := 5) rfl ts_75 rfl rfl rfl rfl rfl (Nat.le_of_ble_eq_true rfl) rfl ?_)) | (refine AOps.st0 rfl rfl (op_store (i := 6) rfl ts_75 rfl rfl rfl rfl rfl (Nat.le_of_ble_eq_true rfl) rfl ?_)) | (refine AOps.st0 rfl rfl (op_store (i := 7) rfl ts_75 rfl rfl rfl rfl rfl (Nat.le_of_ble_eq_true rfl) rfl ?_)) | (refine AOps.st0 rfl rfl (op_store (i := 8) rfl ts_75 rfl rfl rfl rfl rfl (Nat.le_of_ble_eq_true rfl) rfl ?_)) | (refine AOps.st0 rfl rfl (op_store (i := 9) rfl ts_75 rfl rfl rfl rfl rfl (Nat.le_of_ble_eq_true rfl) rfl ?_))
  refine AOps.nil ?_
  refine go_code ?_
  refine c_seq ?_
  refine c_seq ?_
  refine c_region ?_
  refine AOps.st 34 rfl rfl rfl (op_move rfl rfl ?_)
  first | (refine AOps.st 35 rfl rfl rfl (op_len rfl tu_34 rfl (.seq _ _) (fun n35 => ?_))) | (refine AOps.st 35 rfl rfl rfl (op_len rfl tu_34 rfl (.own _ _ _) (fun n35 => ?_))) | (refine AOps.st 35 rfl rfl rfl (op_len rfl tu_34 rfl (.nil 0) (fun n35 => ?_))) | (refine AOps.st 35 rfl rfl rfl (op_len_arr rfl tu_34 rfl ?_))
  refine AOps.st 36 rfl rfl rfl (op_move rfl rfl ?_)
  refine AOps.nil ?_
  refine go_code ?_
  refine c_block ?_
  apply c_loopk [1, 2, 3, 4, 5, 8, 9, 10, 11, 12, 13, 14, 15, 16, 17, 18, 19, 20, 21, 22, 23, 24, 25, 26, 27, 28, 29, 30, 31, 32, 33, 34, 36, 37, 38, 39, 40, 41, 42, 43, 44, 45, 46, 47] (σ := Nat × Nat × Nat) (fun zz => match zz with | (j, g, c) => [(36, .val (.int .i64 j))]) (fun zz => match zz with | (j, g, c) => [.loc b (spc false s n (.val (rowv g22 (EW.length + 1 + ps.length) a22)) (.val (rowv g (EW.length + 1 + j) c)) x y), .row 42 1 (rowv g22 (EW.length + 1 + ps.length) a22) (EW ++ [iv hd] ++ ps), .row 4 1 (rowv g (EW.length + 1 + j) c) (EB ++ [bv true] ++ List.replicate j (bv false))]) (fun zz => match zz with | (j, g, c) => j ≤ ps.length) (fun zz => match zz with | (j, g, c) => ps.length - j) ((0, g31, a31))
  · repeat' (first | exact Drops.nil | apply Drops.keep rfl | apply Drops.skip rfl)
  · exact Nat.zero_le _
  · exact (by repeat' (first | exact SLe.nil _ | refine SLe.cons rfl ?_ ?_ | exact Le.refl _ | exact Le.own _ _ _ | exact Le.nil _))
  · exact (MLe.of_eq (by simp [hB, spc, setL, AV.cells, iv, bv]))
  rintro ⟨j, g, c⟩ hI
  try dsimp only [List.cons_append, List.nil_append] at hI ⊢
  refine c_seq ?_
  refine c_region ?_
  refine AOps.st 37 rfl rfl rfl (op_lss rfl rfl rfl ?_); intro c37 h37
  refine AOps.nil ?_
  refine go_code ?_
  refine c_seq ?_
  rcases bool_split h37 with ⟨rfl, g37⟩ | ⟨rfl, g37⟩
  · refine c_cond_f rfl ?_
    refine c_exit ?_
    refine x_code ?_
    refine x_lp ?_
    refine x_here ?_
    refine go_code ?_
    refine c_seq ?_
    obtain rfl : j = ps.length := by omega
    refine c_region ?_
    refine AOps.st 48 rfl rfl rfl (op_move rfl rfl ?_)
    refine AOps.st 6 rfl rfl rfl (op_assign rfl rfl ?_)
    refine AOps.nil ?_
    refine go_code ?_
    refine c_ret ?_
    exact out_tmp rfl rfl (Le.refl _) (MLe.of_eq (by simp)) ⟨rfl, g22, a22, g, c, rfl⟩
  · refine c_cond_t rfl ?_
    refine c_skip ?_
    refine go_code ?_
    refine c_seq ?_
    refine c_block ?_
    refine c_region ?_
    refine AOps.st 38 rfl rfl rfl (op_move rfl rfl ?_)
    refine AOps.st 39 rfl rfl rfl (op_move rfl rfl ?_)
    first | (refine AOps.st 40 rfl rfl rfl (op_nilCheck_m rfl rfl ?_)) | (refine AOps.st 40 rfl rfl rfl (op_nilCheck_c rfl rfl ?_)) | (refine AOps.st 40 rfl rfl rfl (op_nilCheck_f rfl rfl ?_))
    first | (refine AOps.st 41 rfl rfl rfl (op_fieldAddr_m rfl tf_77_1 rfl ?_)) | (refine AOps.st 41 rfl rfl rfl (op_fieldAddr_c rfl tf_77_1 rfl rfl ?_))
    first | (refine AOps.st 42 rfl rfl rfl (op_load_m1 (i := 0) rfl ta_75 rfl rfl rfl ?_)) | (refine AOps.st 42 rfl rfl rfl (op_load_m1 (i := 1) rfl ta_75 rfl rfl rfl ?_)) | (refine AOps.st 42 rfl rfl rfl (op_load_m1 (i := 2) rfl ta_75 rfl rfl rfl ?_)) | (refine AOps.st 42 rfl rfl rfl (op_load_m1 (i := 3) rfl ta_75 rfl rfl rfl ?_)) | (refine AOps.st 42 rfl rfl rfl (op_load_m1 (i := 4) rfl ta_75 rfl rfl rfl ?_)) | (refine AOps.st 42 rfl rfl rfl (op_load_m1 (i := 5) rfl ta_75 rfl rfl rfl ?_)) | (refine AOps.st 42 rfl rfl rfl (op_load_m1 (i := 6) rfl ta_75 rfl rfl rfl ?_)) | (refine AOps.st 42 rfl rfl rfl (op_load_m1 (i := 7) rfl ta_75 rfl rfl rfl ?_)) | (refine AOps.st 42 rfl rfl rfl (op_load_m1 (i := 8) rfl ta_75 rfl rfl rfl ?_)) | (refine AOps.st 42 rfl rfl rfl (op_load_m1 (i := 9) rfl ta_75 rfl rfl rfl ?_)) | (refine AOps.st 42 rfl rfl rfl (op_load_c1 rfl ta_75 rfl rfl ?_))
    refine AOps.st 43 rfl rfl rfl (op_buildSlice (xs := [.const (.bool false)]) el_75 rfl rfl rfl rfl rfl rfl (Nat.le_of_ble_eq_true rfl) ?_)
    first | (refine AOps.st 44 rfl rfl rfl (op_append_rowg (i := 2) el_75 rfl rfl rfl rfl (.seq _ _) (by first | (simp; done) | (simp; omega) | omega) (by first | (simp; done) | (simp; omega) | omega) ?_)) | (refine AOps.st 44 rfl rfl rfl (op_append_rowg (i := 2) el_75 rfl rfl rfl rfl (.own _ _ _) (by first | (simp; done) | (simp; omega) | omega) (by first | (simp; done) | (simp; omega) | omega) ?_)) | (refine AOps.st 44 rfl rfl rfl (op_append_rowg (i := 2) el_75 rfl rfl rfl rfl (.nil _) (by first | (simp; done) | (simp; omega) | omega) (by first | (simp; done) | (simp; omega) | omega) ?_))
    intro g44 a44
    first | (refine AOps.st 45 rfl rfl rfl (op_nilCheck_m rfl rfl ?_)) | (refine AOps.st 45 rfl rfl rfl (op_nilCheck_c rfl rfl ?_)) | (refine AOps.st 45 rfl rfl rfl (op_nilCheck_f rfl rfl ?_))
    first | (refine AOps.st 46 rfl rfl rfl (op_fieldAddr_m rfl tf_77_1 rfl ?_)) | (refine AOps.st 46 rfl rfl rfl (op_fieldAddr_c rfl tf_77_1 rfl rfl ?_))
    first | (refine AOps.st0 rfl rfl (op_store (i := 0) rfl ts_75 rfl rfl rfl rfl rfl (Nat.le_of_ble_eq_true rfl) rfl ?_)) | (refine AOps.st0 rfl rfl (op_store (i := 1) rfl ts_75 rfl rfl rfl rfl rfl (Nat.le_of_ble_eq_true rfl) rfl ?_)) | (refine AOps.st0 rfl rfl (op_store (i := 2) rfl ts_75 rfl rfl rfl rfl rfl (Nat.le_of_ble_eq_true rfl) rfl ?_)) | (refine AOps.st0 rfl rfl (op_store (i := 3) rfl ts_75 rfl rfl rfl rfl rfl (Nat.le_of_ble_eq_true rfl) rfl ?_)) | (refine AOps.st0 rfl rfl (op_store (i := 4) rfl ts_75 rfl rfl rfl rfl rfl (Nat.le_of_ble_eq_true rfl) rfl ?_)) | (refine AOps.st0 rfl rfl (op_store (i := 5) rfl ts_75 rfl rfl rfl rfl rfl (Nat.le_of_ble_eq_true rfl) rfl ?_)) | (refine AOps.st0 rfl rfl (op_store (i := 6) rfl ts_75 rfl rfl rfl rfl rfl (Nat.le_of_ble_eq_true rfl) rfl ?_)) | (refine AOps.st0 rfl rfl (op_store (i := 7) rfl ts_75 rfl rfl rfl rfl rfl (Nat.le_of_ble_eq_true rfl) rfl ?_)) | (refine AOps.st0 rfl rfl (op_store (i := 8) rfl ts_75 rfl rfl rfl rfl rfl (Nat.le_of_ble_eq_true rfl) rfl ?_)) | (refine AOps.st0 rfl rfl (op_store (i := 9) rfl ts_75 rfl rfl rfl rfl rfl (Nat.le_of_ble_eq_true rfl) rfl ?_))
    refine AOps.nil ?_
    refine go_blk ?_
    refine go_code ?_
    refine c_region ?_
    first | (refine AOps.st 47 rfl rfl rfl (op_add rfl rfl rfl (IntWalk.i64_in _ (by omega)) ?_)) | (refine AOps.st 47 rfl rfl rfl (op_add rfl rfl rfl rfl ?_))
    refine AOps.st 36 rfl rfl rfl (op_move rfl rfl ?_)
    refine AOps.nil ?_
    refine go_lp ?_
    exact ⟨(j + 1, g44, a44), by show j + 1 ≤ _; omega, by simp; omega, (by repeat' (first | exact SLe.nil _ | refine SLe.cons rfl ?_ ?_ | exact Le.refl _ | exact Le.own _ _ _ | exact Le.nil _)), (MLe.of_eq (by simp [hB, spc, setL, AV.cells, List.replicate_succ', Nat.add_assoc, bv]; try omega))⟩
set_option maxHeartbeats 4000000 in
set_option maxRecDepth 100000 in
theorem put_true (b : Nat) (s n x y : AV) (gw cw gb cb k : Nat) (EW EB ps : List (List AV)) (hd : Int) (hW : EW.length = k) (hB : EB.length = k) (hk : 0 < k) (hm : k + ps.length ≤ 1000000000) : ACall Try.prog 49 [.ptr b 3, .val (.int .u64 hd), .seq 1 ps] [.loc b (spc true s n (.val (rowv gw k cw)) (.val (rowv gb k cb)) x y), .row 42 1 (rowv gw k cw) EW, .row 4 1 (rowv gb k cb) EB]
    (fun v M' => v = .val (.int .i64 k) ∧ ∃ gw' cw' gb' cb', M' = [.loc b (spc true s n (.val (rowv gw' (k + 1 + ps.length) cw')) (.val (rowv gb' (k + 1 + ps.length) cb')) x y), .row 42 1 (rowv gw' (k + 1 + ps.length) cw') (EW ++ iv hd :: ps), .row 4 1 (rowv gb' (k + 1 + ps.length) cb') (EB ++ bv true :: List.replicate ps.length (bv false))]) := by
  subst hW
  refine ACall.enter Try.func49 rfl (by kernel_rfl) rfl (Nat.le_of_ble_eq_true rfl) ?_
  refine c_start ?_
  refine c_seq ?_
  refine c_region ?_
  refine AOps.st 6 rfl rfl rfl (op_assign rfl rfl ?_)
  refine AOps.nil ?_
  refine go_code ?_
  refine c_seq ?_
  refine c_region ?_
  refine AOps.st 8 rfl rfl rfl (op_move rfl rfl ?_)
  first | (refine AOps.st 9 rfl rfl rfl (op_nilCheck_m rfl rfl ?_)) | (refine AOps.st 9 rfl rfl rfl (op_nilCheck_c rfl rfl ?_)) | (refine AOps.st 9 rfl rfl rfl (op_nilCheck_f rfl rfl ?_))
  first | (refine AOps.st 10 rfl rfl rfl (op_fieldAddr_m rfl tf_77_0 rfl ?_)) | (refine AOps.st 10 rfl rfl rfl (op_fieldAddr_c rfl tf_77_0 rfl rfl ?_))
  first | (refine AOps.st 11 rfl rfl rfl (op_load_m1 (i := 0) rfl ta_34 rfl rfl rfl ?_)) | (refine AOps.st 11 rfl rfl rfl (op_load_m1 (i := 1) rfl ta_34 rfl rfl rfl ?_)) | (refine AOps.st 11 rfl rfl rfl (op_load_m1 (i := 2) rfl ta_34 rfl rfl rfl ?_)) | (refine AOps.st 11 rfl rfl rfl (op_load_m1 (i := 3) rfl ta_34 rfl rfl rfl ?_)) | (refine AOps.st 11 rfl rfl rfl (op_load_m1 (i := 4) rfl ta_34 rfl rfl rfl ?_)) | (refine AOps.st 11 rfl rfl rfl (op_load_m1 (i := 5) rfl ta_34 rfl rfl rfl ?_)) | (refine AOps.st 11 rfl rfl rfl (op_load_m1 (i := 6) rfl ta_34 rfl rfl rfl ?_)) | (refine AOps.st 11 rfl rfl rfl (op_load_m1 (i := 7) rfl ta_34 rfl rfl rfl ?_)) | (refine AOps.st 11 rfl rfl rfl (op_load_m1 (i := 8) rfl ta_34 rfl rfl rfl ?_)) | (refine AOps.st 11 rfl rfl rfl (op_load_m1 (i := 9) rfl ta_34 rfl rfl rfl ?_)) | (refine AOps.st 11 rfl rfl rfl (op_load_c1 rfl ta_34 rfl rfl ?_))
  refine AOps.st 12 rfl rfl rfl (op_len_val rfl tu_34 rfl ?_)
  refine AOps.st 7 rfl rfl rfl (op_assign rfl rfl ?_)
  refine AOps.nil ?_
  refine go_code ?_
  refine c_seq ?_
  refine c_region ?_
  refine AOps.st 13 rfl rfl rfl (op_move rfl rfl ?_)
  refine AOps.st 14 rfl rfl rfl (op_move rfl rfl ?_)
  first | (refine AOps.st 15 rfl rfl rfl (op_nilCheck_m rfl rfl ?_)) | (refine AOps.st 15 rfl rfl rfl (op_nilCheck_c rfl rfl ?_)) | (refine AOps.st 15 rfl rfl rfl (op_nilCheck_f rfl rfl ?_))
  first | (refine AOps.st 16 rfl rfl rfl (op_fieldAddr_m rfl tf_77_0 rfl ?_)) | (refine AOps.st 16 rfl rfl rfl (op_fieldAddr_c rfl tf_77_0 rfl rfl ?_))
  first | (refine AOps.st 17 rfl rfl rfl (op_load_m1 (i := 0) rfl ta_34 rfl rfl rfl ?_)) | (refine AOps.st 17 rfl rfl rfl (op_load_m1 (i := 1) rfl ta_34 rfl rfl rfl ?_)) | (refine AOps.st 17 rfl rfl rfl (op_load_m1 (i := 2) rfl ta_34 rfl rfl rfl ?_)) | (refine AOps.st 17 rfl rfl rfl (op_load_m1 (i := 3) rfl ta_34 rfl rfl rfl ?_)) | (refine AOps.st 17 rfl rfl rfl (op_load_m1 (i := 4) rfl ta_34 rfl rfl rfl ?_)) | (refine AOps.st 17 rfl rfl rfl (op_load_m1 (i := 5) rfl ta_34 rfl rfl rfl ?_)) | (refine AOps.st 17 rfl rfl rfl (op_load_m1 (i := 6) rfl ta_34 rfl rfl rfl ?_)) | (refine AOps.st 17 rfl rfl rfl (op_load_m1 (i := 7) rfl ta_34 rfl rfl rfl ?_)) | (refine AOps.st 17 rfl rfl rfl (op_load_m1 (i := 8) rfl ta_34 rfl rfl rfl ?_)) | (refine AOps.st 17 rfl rfl rfl (op_load_m1 (i := 9) rfl ta_34 rfl rfl rfl ?_)) | (refine AOps.st 17 rfl rfl rfl (op_load_c1 rfl ta_34 rfl rfl ?_))
  refine AOps.st 18 rfl rfl rfl (op_move rfl rfl ?_)
  refine AOps.st 19 rfl rfl rfl (op_buildSlice (xs := [.tmp 18]) el_34 rfl rfl rfl rfl rfl rfl (Nat.le_of_ble_eq_true rfl) ?_)
  first | (refine AOps.st 20 rfl rfl rfl (op_append_rowg (i := 1) el_34 rfl rfl rfl rfl (.seq _ _) (by first | (simp; done) | (simp; omega) | omega) (by first | (simp; done) | (simp; omega) | omega) ?_)) | (refine AOps.st 20 rfl rfl rfl (op_append_rowg (i := 1) el_34 rfl rfl rfl rfl (.own _ _ _) (by first | (simp; done) | (simp; omega) | omega) (by first | (simp; done) | (simp; omega) | omega) ?_)) | (refine AOps.st 20 rfl rfl rfl (op_append_rowg (i := 1) el_34 rfl rfl rfl rfl (.nil _) (by first | (simp; done) | (simp; omega) | omega) (by first | (simp; done) | (simp; omega) | omega) ?_))
  intro g20 a20
  refine AOps.st 21 rfl rfl rfl (op_move rfl rfl ?_)
  first | (refine AOps.st 22 rfl rfl rfl (op_append_rowg (i := 1) el_34 rfl rfl rfl rfl (.seq _ _) (by first | (simp; done) | (simp; omega) | omega) (by first | (simp; done) | (simp; omega) | omega) ?_)) | (refine AOps.st 22 rfl rfl rfl (op_append_rowg (i := 1) el_34 rfl rfl rfl rfl (.own _ _ _) (by first | (simp; done) | (simp; omega) | omega) (by first | (simp; done) | (simp; omega) | omega) ?_)) | (refine AOps.st 22 rfl rfl rfl (op_append_rowg (i := 1) el_34 rfl rfl rfl rfl (.nil _) (by first | (simp; done) | (simp; omega) | omega) (by first | (simp; done) | (simp; omega) | omega) ?_))
  intro g22 a22
  first | (refine AOps.st 23 rfl rfl rfl (op_nilCheck_m rfl rfl ?_)) | (refine AOps.st 23 rfl rfl rfl (op_nilCheck_c rfl rfl ?_)) | (refine AOps.st 23 rfl rfl rfl (op_nilCheck_f rfl rfl ?_))
  first | (refine AOps.st 24 rfl rfl rfl (op_fieldAddr_m rfl tf_77_0 rfl ?_)) | (refine AOps.st 24 rfl rfl rfl (op_fieldAddr_c rfl tf_77_0 rfl rfl ?_))
  first | (refine AOps.st0 rfl rfl (op_store (i := 0) rfl ts_34 rfl rfl rfl rfl rfl (Nat.le_of_ble_eq_true rfl) rfl ?_)) | (refine AOps.st0 rfl rfl (op_store (i := 1) rfl ts_34 rfl rfl rfl rfl rfl (Nat.le_of_ble_eq_true rfl) rfl ?_)) | (refine AOps.st0 rfl rfl (op_store (i := 2) rfl ts_34 rfl rfl rfl rfl rfl (Nat.le_of_ble_eq_true rfl) rfl ?_)) | (refine AOps.st0 rfl rfl (op_store (i := 3) rfl ts_34 rfl rfl rfl rfl rfl (Nat.le_of_ble_eq_true rfl) rfl ?_)) | (refine AOps.st0 rfl rfl (op_store (i := 4) rfl ts_34 rfl rfl rfl rfl rfl (Nat.le_of_ble_eq_true rfl) rfl ?_)) | (refine AOps.st0 rfl rfl (op_store (i := 5) rfl ts_34 rfl rfl rfl rfl rfl (Nat.le_of_ble_eq_true rfl) rfl ?_)) | (refine AOps.st0 rfl rfl (op_store (i := 6) rfl ts_34 rfl rfl rfl rfl rfl (Nat.le_of_ble_eq_true rfl) rfl ?_)) | (refine AOps.st0 rfl rfl (op_store (i := 7) rfl ts_34 rfl rfl rfl rfl rfl (Nat.le_of_ble_eq_true rfl) rfl ?_)) | (refine AOps.st0 rfl rfl (op_store (i := 8) rfl ts_34 rfl rfl rfl rfl rfl (Nat.le_of_ble_eq_true rfl) rfl ?_)) | (refine AOps.st0 rfl rfl (op_store (i := 9) rfl ts_34 rfl rfl rfl rfl rfl (Nat.le_of_ble_eq_true rfl) rfl ?_))
  refine AOps.nil ?_
  refine go_code ?_
  refine c_seq ?_
  refine c_region ?_
  refine AOps.st 25 rfl rfl rfl (op_move rfl rfl ?_)
  refine AOps.st 26 rfl rfl rfl (op_move rfl rfl ?_)
  first | (refine AOps.st 27 rfl rfl rfl (op_nilCheck_m rfl rfl ?_)) | (refine AOps.st 27 rfl rfl rfl (op_nilCheck_c rfl rfl ?_)) | (refine AOps.st 27 rfl rfl rfl (op_nilCheck_f rfl rfl ?_))
  first | (refine AOps.st 28 rfl rfl rfl (op_fieldAddr_m rfl tf_77_1 rfl ?_)) | (refine AOps.st 28 rfl rfl rfl (op_fieldAddr_c rfl tf_77_1 rfl rfl ?_))
  first | (refine AOps.st 29 rfl rfl rfl (op_load_m1 (i := 0) rfl ta_75 rfl rfl rfl ?_)) | (refine AOps.st 29 rfl rfl rfl (op_load_m1 (i := 1) rfl ta_75 rfl rfl rfl ?_)) | (refine AOps.st 29 rfl rfl rfl (op_load_m1 (i := 2) rfl ta_75 rfl rfl rfl ?_)) | (refine AOps.st 29 rfl rfl rfl (op_load_m1 (i := 3) rfl ta_75 rfl rfl rfl ?_)) | (refine AOps.st 29 rfl rfl rfl (op_load_m1 (i := 4) rfl ta_75 rfl rfl rfl ?_)) | (refine AOps.st 29 rfl rfl rfl (op_load_m1 (i := 5) rfl ta_75 rfl rfl rfl ?_)) | (refine AOps.st 29 rfl rfl rfl (op_load_m1 (i := 6) rfl ta_75 rfl rfl rfl ?_)) | (refine AOps.st 29 rfl rfl rfl (op_load_m1 (i := 7) rfl ta_75 rfl rfl rfl ?_)) | (refine AOps.st 29 rfl rfl rfl (op_load_m1 (i := 8) rfl ta_75 rfl rfl rfl ?_)) | (refine AOps.st 29 rfl rfl rfl (op_load_m1 (i := 9) rfl ta_75 rfl rfl rfl ?_)) | (refine AOps.st 29 rfl rfl rfl (op_load_c1 rfl ta_75 rfl rfl ?_))
  refine AOps.st 30 rfl rfl rfl (op_buildSlice (xs := [.const (.bool true)]) el_75 rfl rfl rfl rfl rfl rfl (Nat.le_of_ble_eq_true rfl) ?_)
  first | (refine AOps.st 31 rfl rfl rfl (op_append_rowg (i := 2) el_75 rfl rfl rfl rfl (.seq _ _) (by first | (simp; done) | (simp; omega) | omega) (by first | (simp; done) | (simp; omega) | omega) ?_)) | (refine AOps.st 31 rfl rfl rfl (op_append_rowg (i := 2) el_75 rfl rfl rfl rfl (.own _ _ _) (by first | (simp; done) | (simp; omega) | omega) (by first | (simp; done) | (simp; omega) | omega) ?_)) | (refine AOps.st 31 rfl rfl rfl (op_append_rowg (i := 2) el_75 rfl rfl rfl rfl (.nil _) (by first | (simp; done) | (simp; omega) | omega) (by first | (simp; done) | (simp; omega) | omega) ?_))
  intro g31 a31
  first | (refine AOps.st 32 rfl rfl rfl (op_nilCheck_m rfl rfl ?_)) | (refine AOps.st 32 rfl rfl rfl (op_nilCheck_c rfl rfl ?_)) | (refine AOps.st 32 rfl rfl rfl (op_nilCheck_f rfl rfl ?_))
  first | (refine AOps.st 33 rfl rfl rfl (op_fieldAddr_m rfl tf_77_1 rfl ?_)) | (refine AOps.st 33 rfl rfl rfl (op_fieldAddr_c rfl tf_77_1 rfl rfl ?_))
  first | (refine AOps.st0 rfl rfl (op_store (i := 0) rfl ts_75 rfl rfl rfl rfl rfl (Nat.le_of_ble_eq_true rfl) rfl ?_)) | (refine AOps.st0 rfl rfl (op_store (i := 1) rfl ts_75 rfl rfl rfl rfl rfl (Nat.le_of_ble_eq_true rfl) rfl ?_)) | (refine AOps.st0 rfl rfl (op_store (i := 2) rfl ts_75 rfl rfl rfl rfl rfl (Nat.le_of_ble_eq_true rfl) rfl ?_)) | (refine AOps.st0 rfl rfl (op_store (i := 3) rfl ts_75 rfl rfl rfl rfl rfl (Nat.le_of_ble_eq_true rfl) rfl ?_)) | (refine AOps.st0 rfl rfl (op_store (i := 4) rfl ts_75 rfl rfl rfl rfl rfl (Nat.le_of_ble_eq_true rfl) rfl ?_)) | (refine AOps.st0 rfl rfl (op_store (i := 5) rfl ts_75 rfl rfl rfl rfl rfl (Nat.le_of_ble_eq_true rfl) rfl ?_)) | (refine AOps.st0 rfl rfl (op_store (i := 6) rfl ts_75 rfl rfl rfl rfl rfl (Nat.le_of_ble_eq_true rfl) rfl ?_)) | (refine AOps.st0 rfl rfl (op_store (i := 7) rfl ts_75 rfl rfl rfl rfl rfl (Nat.le_of_ble_eq_true rfl) rfl ?_)) | (refine AOps.st0 rfl rfl (op_store (i := 8) rfl ts_75 rfl rfl rfl rfl rfl (Nat.le_of_ble_eq_true rfl) rfl ?_)) | (refine AOps.st0 rfl rfl (op_store (i := 9) rfl ts_75 rfl rfl rfl rfl rfl (Nat.le_of_ble_eq_true rfl) rfl ?_))
  refine AOps.nil ?_
  refine go_code ?_
  refine c_seq ?_
  refine c_seq ?_
  refine c_region ?_
  refine AOps.st 34 rfl rfl rfl (op_move rfl rfl ?_)
  first | (refine AOps.st 35 rfl rfl rfl (op_len rfl tu_34 rfl (.seq _ _) (fun n35 => ?_))) | (refine AOps.st 35 rfl rfl rfl (op_len rfl tu_34 rfl (.own _ _ _) (fun n35 => ?_))) | (refine AOps.st 35 rfl rfl rfl (op_len rfl tu_34 rfl (.nil 0) (fun n35 => ?_))) | (refine AOps.st 35 rfl rfl rfl (op_len_arr rfl tu_34 rfl ?_))
  refine AOps.st 36 rfl rfl rfl (op_move rfl rfl ?_)
  refine AOps.nil ?_
  refine go_code ?_
  refine c_block ?_
  apply c_loopk [1, 2, 3, 4, 5, 8, 9, 10, 11, 12, 13, 14, 15, 16, 17, 18, 19, 20, 21, 22, 23, 24, 25, 26, 27, 28, 29, 30, 31, 32, 33, 34, 36, 37, 38, 39, 40, 41, 42, 43, 44, 45, 46, 47] (σ := Nat × Nat × Nat) (fun zz => match zz with | (j, g, c) => [(36, .val (.int .i64 j))]) (fun zz => match zz with | (j, g, c) => [.loc b (spc true s n (.val (rowv g22 (EW.length + 1 + ps.length) a22)) (.val (rowv g (EW.length + 1 + j) c)) x y), .row 42 1 (rowv g22 (EW.length + 1 + ps.length) a22) (EW ++ [iv hd] ++ ps), .row 4 1 (rowv g (EW.length + 1 + j) c) (EB ++ [bv true] ++ List.replicate j (bv false))]) (fun zz => match zz with | (j, g, c) => j ≤ ps.length) (fun zz => match zz with | (j, g, c) => ps.length - j) ((0, g31, a31))
  · repeat' (first | exact Drops.nil | apply Drops.keep rfl | apply Drops.skip rfl)
  · exact Nat.zero_le _
  · exact (by repeat' (first | exact SLe.nil _ | refine SLe.cons rfl ?_ ?_ | exact Le.refl _ | exact Le.own _ _ _ | exact Le.nil _))
  · exact (MLe.of_eq (by simp [hB, spc, setL, AV.cells, iv, bv]))
  rintro ⟨j, g, c⟩ hI
  try dsimp only [List.cons_append, List.nil_append] at hI ⊢
  refine c_seq ?_
  refine c_region ?_
  refine AOps.st 37 rfl rfl rfl (op_lss rfl rfl rfl ?_); intro c37 h37
  refine AOps.nil ?_
  refine go_code ?_
  refine c_seq ?_
  rcases bool_split h37 with ⟨rfl, g37⟩ | ⟨rfl, g37⟩
  · refine c_cond_f rfl ?_
    refine c_exit ?_
    refine x_code ?_
    refine x_lp ?_
    refine x_here ?_
    refine go_code ?_
    refine c_seq ?_
    obtain rfl : j = ps.length := by omega
    refine c_region ?_
    refine AOps.st 48 rfl rfl rfl (op_move rfl rfl ?_)
    refine AOps.st 6 rfl rfl rfl (op_assign rfl rfl ?_)
    refine AOps.nil ?_
    refine go_code ?_
    refine c_ret ?_
    exact out_tmp rfl rfl (Le.refl _) (MLe.of_eq (by simp)) ⟨rfl, g22, a22, g, c, rfl⟩
  · refine c_cond_t rfl ?_
    refine c_skip ?_
    refine go_code ?_
    refine c_seq ?_
    refine c_block ?_
    refine c_region ?_
    refine AOps.st 38 rfl rfl rfl (op_move rfl rfl ?_)
    refine AOps.st 39 rfl rfl rfl (op_move rfl rfl ?_)
    first | (refine AOps.st 40 rfl rfl rfl (op_nilCheck_m rfl rfl ?_)) | (refine AOps.st 40 rfl rfl rfl (op_nilCheck_c rfl rfl ?_)) | (refine AOps.st 40 rfl rfl rfl (op_nilCheck_f rfl rfl ?_))
    first | (refine AOps.st 41 rfl rfl rfl (op_fieldAddr_m rfl tf_77_1 rfl ?_)) | (refine AOps.st 41 rfl rfl rfl (op_fieldAddr_c rfl tf_77_1 rfl rfl ?_))
    first | (refine AOps.st 42 rfl rfl rfl (op_load_m1 (i := 0) rfl ta_75 rfl rfl rfl ?_)) | (refine AOps.st 42 rfl rfl rfl (op_load_m1 (i := 1) rfl ta_75 rfl rfl rfl ?_)) | (refine AOps.st 42 rfl rfl rfl (op_load_m1 (i := 2) rfl ta_75 rfl rfl rfl ?_)) | (refine AOps.st 42 rfl rfl rfl (op_load_m1 (i := 3) rfl ta_75 rfl rfl rfl ?_)) | (refine AOps.st 42 rfl rfl rfl (op_load_m1 (i := 4) rfl ta_75 rfl rfl rfl ?_)) | (refine AOps.st 42 rfl rfl rfl (op_load_m1 (i := 5) rfl ta_75 rfl rfl rfl ?_)) | (refine AOps.st 42 rfl rfl rfl (op_load_m1 (i := 6) rfl ta_75 rfl rfl rfl ?_)) | (refine AOps.st 42 rfl rfl rfl (op_load_m1 (i := 7) rfl ta_75 rfl rfl rfl ?_)) | (refine AOps.st 42 rfl rfl rfl (op_load_m1 (i := 8) rfl ta_75 rfl rfl rfl ?_)) | (refine AOps.st 42 rfl rfl rfl (op_load_m1 (i := 9) rfl ta_75 rfl rfl rfl ?_)) | (refine AOps.st 42 rfl rfl rfl (op_load_c1 rfl ta_75 rfl rfl ?_))
    refine AOps.st 43 rfl rfl rfl (op_buildSlice (xs := [.const (.bool false)]) el_75 rfl rfl rfl rfl rfl rfl (Nat.le_of_ble_eq_true rfl) ?_)
    first | (refine AOps.st 44 rfl rfl rfl (op_append_rowg (i := 2) el_75 rfl rfl rfl rfl (.seq _ _) (by first | (simp; done) | (simp; omega) | omega) (by first | (simp; done) | (simp; omega) | omega) ?_)) | (refine AOps.st 44 rfl rfl rfl (op_append_rowg (i := 2) el_75 rfl rfl rfl rfl (.own _ _ _) (by first | (simp; done) | (simp; omega) | omega) (by first | (simp; done) | (simp; omega) | omega) ?_)) | (refine AOps.st 44 rfl rfl rfl (op_append_rowg (i := 2) el_75 rfl rfl rfl rfl (.nil _) (by first | (simp; done) | (simp; omega) | omega) (by first | (simp; done) | (simp; omega) | omega) ?_))
    intro g44 a44
    first | (refine AOps.st 45 rfl rfl rfl (op_nilCheck_m rfl rfl ?_)) | (refine AOps.st 45 rfl rfl rfl (op_nilCheck_c rfl rfl ?_)) | (refine AOps.st 45 rfl rfl rfl (op_nilCheck_f rfl rfl ?_))
    first | (refine AOps.st 46 rfl rfl rfl (op_fieldAddr_m rfl tf_77_1 rfl ?_)) | (refine AOps.st 46 rfl rfl rfl (op_fieldAddr_c rfl tf_77_1 rfl rfl ?_))
    first | (refine AOps.st0 rfl rfl (op_store (i := 0) rfl ts_75 rfl rfl rfl rfl rfl (Nat.le_of_ble_eq_true rfl) rfl ?_)) | (refine AOps.st0 rfl rfl (op_store (i := 1) rfl ts_75 rfl rfl rfl rfl rfl (Nat.le_of_ble_eq_true rfl) rfl ?_)) | (refine AOps.st0 rfl rfl (op_store (i := 2) rfl ts_75 rfl rfl rfl rfl rfl (Nat.le_of_ble_eq_true rfl) rfl ?_)) | (refine AOps.st0 rfl rfl (op_store (i := 3) rfl ts_75 rfl rfl rfl rfl rfl (Nat.le_of_ble_eq_true rfl) rfl ?_)) | (refine AOps.st0 rfl rfl (op_store (i := 4) rfl ts_75 rfl rfl rfl rfl rfl (Nat.le_of_ble_eq_true rfl) rfl ?_)) | (refine AOps.st0 rfl rfl (op_store (i := 5) rfl ts_75 rfl rfl rfl rfl rfl (Nat.le_of_ble_eq_true rfl) rfl ?_)) | (refine AOps.st0 rfl rfl (op_store (i := 6) rfl ts_75 rfl rfl rfl rfl rfl (Nat.le_of_ble_eq_true rfl) rfl ?_)) | (refine AOps.st0 rfl rfl (op_store (i := 7) rfl ts_75 rfl rfl rfl rfl rfl (Nat.le_of_ble_eq_true rfl) rfl ?_)) | (refine AOps.st0 rfl rfl (op_store (i := 8) rfl ts_75 rfl rfl rfl rfl rfl (Nat.le_of_ble_eq_true rfl) rfl ?_)) | (refine AOps.st0 rfl rfl (op_store (i := 9) rfl ts_75 rfl rfl rfl rfl rfl (Nat.le_of_ble_eq_true rfl) rfl ?_))
    refine AOps.nil ?_
    refine go_blk ?_
    refine go_code ?_
    refine c_region ?_
    first | (refine AOps.st 47 rfl rfl rfl (op_add rfl rfl rfl (IntWalk.i64_in _ (by omega)) ?_)) | (refine AOps.st 47 rfl rfl rfl (op_add rfl rfl rfl rfl ?_))
    refine AOps.st 36 rfl rfl rfl (op_move rfl rfl ?_)
    refine AOps.nil ?_
    refine go_lp ?_
    exact ⟨(j + 1, g44, a44), by show j + 1 ≤ _; omega, by simp; omega, (by repeat' (first | exact SLe.nil _ | refine SLe.cons rfl ?_ ?_ | exact Le.refl _ | exact Le.own _ _ _ | exact Le.nil _)), (MLe.of_eq (by simp [hB, spc, setL, AV.cells, List.replicate_succ', Nat.add_assoc, bv]; try omega))⟩
theorem heap_push (now : Bool) (b : Nat) (sz : Int) (H : List HO) (o : HO) (gw cw gb cb : Nat) (x y : AV) : HeapAt b sz (H ++ [o]) [.loc b (spc now (.val (.int .i64 sz)) (nowV now) (.val (rowv gw (used H + 1 + 1 + (o.parts.map iv).length) cw)) (.val (rowv gb (used H + 1 + 1 + (o.parts.map iv).length) cb)) x y), .row 42 1 (rowv gw (used H + 1 + 1 + (o.parts.map iv).length) cw) ((hw H).map iv ++ iv o.head :: o.parts.map iv), .row 4 1 (rowv gb (used H + 1 + 1 + (o.parts.map iv).length) cb) ((hb H).map bv ++ bv true :: List.replicate (o.parts.map iv).length (bv false))] := by
  refine ⟨now, gw, cw, gb, cb, x, y, ?_⟩
  have e : used H + 1 + 1 + (o.parts.map iv).length = used (H ++ [o]) + 1 := by rw [used_app, used_one]; simp; omega
  have e1 : (hw (H ++ [o])).map iv = (hw H).map iv ++ iv o.head :: o.parts.map iv := by rw [hw_app, HO.ws]; simp
  have e2 : (hb (H ++ [o])).map bv = (hb H).map bv ++ bv true :: List.replicate (o.parts.map iv).length (bv false) := by rw [hb_app, HO.bs]; simp
  rw [e, e1, e2]
/-- may there be such an object? -/
def Fits31 (sz : Int) (H : List HO) (kd tg : Int) (ps : List Int) : Prop := headOk kd tg ps.length = true ∧ 0 < ps.length ∧ (used H : Int) + ps.length + 1 ≤ sz
theorem okE_iff (b : Bool) : okE b ≠ 0 ↔ ¬ b = true := by cases b <;> simp [okE]
set_option maxHeartbeats 4000000 in
set_option maxRecDepth 100000 in
theorem Alloc_c (b : Nat) (sz : Int) (H : List HO) (M : Mem) (hM : HeapAt b sz H M) (h : 0 < sz) (hs : sz ≤ 16777216) (hu : used H ≤ 16777216) (kd tg : Int) (ps : List Int) (hk1 : -9223372036854775808 ≤ kd) (hk2 : kd ≤ 9223372036854775807) (ht1 : -9223372036854775808 ≤ tg) (ht2 : tg ≤ 9223372036854775807) (hl : ps.length ≤ 100000000) :
    ACall Try.prog 22 [.ptr b 0, .val (.int .i64 kd), .val (.int .i64 tg), .seq 1 (ps.map iv)] M (fun v M' => (Fits31 sz H kd tg ps ∧ v = .tup [.val (.int .u64 (2 * (used H + 1 : Int))), .val (.bool true)] ∧ HeapAt b sz (H ++ [⟨kd, tg, ps⟩]) M') ∨ (¬ Fits31 sz H kd tg ps ∧ v = .tup [.val (.int .u64 0), .val (.bool false)] ∧ M' = M)) := by
  have hR := Room_c b sz (ps.length + 1) H M hM h hs hu
  have hHd := Head_p kd tg ps.length hk1 hk2 ht1 ht2 (by omega) (by omega)
  have hlW : ((hw H).map iv).length = used H + 1 := by simpa using hw_len H
  have hlB : ((hb H).map bv).length = used H + 1 := by simpa using hb_len H
  have hlp : (ps.map iv).length = ps.length := by simp
  have hHd : PCall Try.prog 47 [.val (.int .i64 kd), .val (.int .i64 tg), .val (.int .i64 (ps.map iv).length)] (.tup [.val (.int .u64 (headW kd tg ps.length)), .val (.int .i64 (okE (headOk kd tg ps.length)))]) := by rw [hlp]; exact hHd
  have hR : KBCall Try.prog 25 [.ptr b 0, .val (.int .i64 ((ps.map iv).length + 1))] M (0 ≤ (ps.length : Int) + 1 ∧ (ps.length : Int) + 1 + used H ≤ sz) := by rw [hlp]; exact hR
  have hokE := okE_iff (headOk kd tg ps.length)
  unfold Fits31
  have hpush := fun now gw cw gb cb x y => heap_push now b sz H ⟨kd, tg, ps⟩ gw cw gb cb x y
  simp only [HO.head] at hpush
  have hPtr := Ptr_p (used H + 1 : Nat) (by omega) (by omega)
  have hpw : used H ≤ 16777216 → ptrW (used H + 1 : Nat) = 2 * (used H + 1 : Int) := fun q => by unfold ptrW ptrOk; rw [if_pos (by simp; omega)]; omega
  rw [hpw hu] at hPtr
  generalize headW kd tg ps.length = hd at *
  generalize headOk kd tg ps.length = ok at *
  generalize okE ok = oe at *
  obtain ⟨now, gw, cw, gb, cb, x, y, rfl⟩ := hM
  have hpf := fun s n => put_false b s n x y gw cw gb cb (used H + 1) _ _ (ps.map iv) hd hlW hlB (by omega) (by omega)
  have hpt := fun s n => put_true b s n x y gw cw gb cb (used H + 1) _ _ (ps.map iv) hd hlW hlB (by omega) (by omega)
  cases now
  · simp only [spc] at hpf hpt hR hpush ⊢
    refine ACall.enter Try.func22 rfl (by kernel_rfl) rfl (Nat.le_of_ble_eq_true rfl) ?_
    refine c_start ?_
    refine c_seq ?_
    refine c_region ?_
    refine AOps.st 8 rfl rfl rfl (op_assign rfl rfl ?_)
    refine AOps.st 9 rfl rfl rfl (op_assign rfl rfl ?_)
    refine AOps.nil ?_
    refine go_code ?_
    refine c_seq ?_
    refine c_region ?_
    refine AOps.st 15 rfl rfl rfl (op_move rfl rfl ?_)
    refine AOps.st 16 rfl rfl rfl (op_move rfl rfl ?_)
    refine AOps.st 17 rfl rfl rfl (op_move rfl rfl ?_)
    first | (refine AOps.st 18 rfl rfl rfl (op_len rfl tu_34 rfl (.seq _ _) (fun n18 => ?_))) | (refine AOps.st 18 rfl rfl rfl (op_len rfl tu_34 rfl (.own _ _ _) (fun n18 => ?_))) | (refine AOps.st 18 rfl rfl rfl (op_len rfl tu_34 rfl (.nil 0) (fun n18 => ?_))) | (refine AOps.st 18 rfl rfl rfl (op_len_arr rfl tu_34 rfl ?_))
    refine AOps.st 19 rfl rfl rfl (op_callp (xs := [.tmp 15, .tmp 16, .tmp 18]) rfl rfl (hHd) (by first | exact Les.refl _ | (repeat' (first | exact Les.refl _ | refine Les.cons ?_ ?_ | exact Le.refl _ | exact Le.own _ _ _ | exact Le.nil _ | refine Le.agg ?_))) ?_)
    refine AOps.st 14 rfl rfl rfl (op_move rfl rfl ?_)
    refine AOps.st 20 rfl rfl rfl (op_extract rfl rfl rfl ?_)
    refine AOps.st 21 rfl rfl rfl (op_extract rfl rfl rfl ?_)
    refine AOps.st 10 rfl rfl rfl (op_assign rfl rfl ?_)
    refine AOps.st 11 rfl rfl rfl (op_assign rfl rfl ?_)
    refine AOps.nil ?_
    refine go_code ?_
    refine c_seq ?_
    refine c_seq ?_
    refine c_bool 36 (¬ (ok = true ∧ 0 < ps.length ∧ (used H : Int) + ps.length + 1 ≤ sz)) ?_ _ _ rfl ?_
    · skip
      refine AOps.st 22 rfl rfl rfl (op_move rfl rfl ?_)
      refine AOps.st 23 rfl rfl rfl (op_neq rfl rfl rfl ?_); intro c23 h23
      refine AOps.st 24 rfl rfl rfl (op_move rfl rfl ?_)
      rcases bool_split h23 with ⟨rfl, g23⟩ | ⟨rfl, g23⟩
      · skip
        refine AOps.gt 25 rfl rfl rfl rfl rfl (op_move rfl rfl ?_)
        first | (refine AOps.gt 26 rfl rfl rfl rfl rfl (op_len rfl tu_34 rfl (.seq _ _) (fun n26 => ?_))) | (refine AOps.gt 26 rfl rfl rfl rfl rfl (op_len rfl tu_34 rfl (.own _ _ _) (fun n26 => ?_))) | (refine AOps.gt 26 rfl rfl rfl rfl rfl (op_len rfl tu_34 rfl (.nil 0) (fun n26 => ?_))) | (refine AOps.gt 26 rfl rfl rfl rfl rfl (op_len_arr rfl tu_34 rfl ?_))
        refine AOps.gt 27 rfl rfl rfl rfl rfl (op_eql rfl rfl rfl ?_); intro c27 h27
        refine AOps.st 28 rfl rfl rfl (op_pick rfl rfl rfl ?_)
        refine AOps.st 29 rfl rfl rfl (op_move rfl rfl ?_)
        rcases bool_split h27 with ⟨rfl, g27⟩ | ⟨rfl, g27⟩
        · skip
          refine AOps.gt 30 rfl rfl rfl rfl rfl (op_move rfl rfl ?_)
          refine AOps.gt 31 rfl rfl rfl rfl rfl (op_move rfl rfl ?_)
          first | (refine AOps.gt 32 rfl rfl rfl rfl rfl (op_len rfl tu_34 rfl (.seq _ _) (fun n32 => ?_))) | (refine AOps.gt 32 rfl rfl rfl rfl rfl (op_len rfl tu_34 rfl (.own _ _ _) (fun n32 => ?_))) | (refine AOps.gt 32 rfl rfl rfl rfl rfl (op_len rfl tu_34 rfl (.nil 0) (fun n32 => ?_))) | (refine AOps.gt 32 rfl rfl rfl rfl rfl (op_len_arr rfl tu_34 rfl ?_))
          first | (refine AOps.gt 33 rfl rfl rfl rfl rfl (op_add rfl rfl rfl (IntWalk.i64_in _ (by omega)) ?_)) | (refine AOps.gt 33 rfl rfl rfl rfl rfl (op_add rfl rfl rfl rfl ?_))
          refine AOps.gt 34 rfl rfl rfl rfl rfl (op_callkb (xs := [.tmp 30, .tmp 33]) [0,0,0] rfl rfl rfl (hR) (by first | exact Les.refl _ | (repeat' (first | exact Les.refl _ | refine Les.cons ?_ ?_ | exact Le.refl _ | exact Le.own _ _ _ | exact Le.nil _ | refine Le.agg ?_))) ?_); intro c34 h34
          refine AOps.gt 35 rfl rfl rfl rfl rfl (op_notc rfl rfl ?_); intro c35 h35
          try replace h35 := nott h35 h34
          refine AOps.st 36 rfl rfl rfl (op_pick rfl rfl rfl ?_)
          refine AOps.nil ?_
          refine BoolQ.mk rfl ?_ (by repeat' (first | exact SLe.wo _ _ | exact SLe.refl _ | refine SLe.fresh rfl ?_)) (by first | exact MLe.none _ | exact MLe.refl _ | (repeat' (first | exact MLe.nil | exact MLe.refl _ | refine MLe.cons _ ?_ | refine MLe.drop _ ?_)))
          first | (simp_all; done) | grind
        · skip
          refine AOps.gf 30 rfl rfl rfl rfl rfl ?_
          refine AOps.gf 31 rfl rfl rfl rfl rfl ?_
          refine AOps.gf 32 rfl rfl rfl rfl rfl ?_
          refine AOps.gf 33 rfl rfl rfl rfl rfl ?_
          refine AOps.gf 34 rfl rfl rfl rfl rfl ?_
          refine AOps.gf 35 rfl rfl rfl rfl rfl ?_
          refine AOps.st 36 rfl rfl rfl (op_pick rfl rfl rfl ?_)
          refine AOps.nil ?_
          refine BoolQ.mk rfl ?_ (by repeat' (first | exact SLe.wo _ _ | exact SLe.refl _ | refine SLe.fresh rfl ?_)) (by first | exact MLe.none _ | exact MLe.refl _ | (repeat' (first | exact MLe.nil | exact MLe.refl _ | refine MLe.cons _ ?_ | refine MLe.drop _ ?_)))
          first | (simp_all; done) | grind
      · skip
        refine AOps.gf 25 rfl rfl rfl rfl rfl ?_
        refine AOps.gf 26 rfl rfl rfl rfl rfl ?_
        refine AOps.gf 27 rfl rfl rfl rfl rfl ?_
        refine AOps.st 28 rfl rfl rfl (op_pick rfl rfl rfl ?_)
        refine AOps.st 29 rfl rfl rfl (op_move rfl rfl ?_)
        refine AOps.gf 30 rfl rfl rfl rfl rfl ?_
        refine AOps.gf 31 rfl rfl rfl rfl rfl ?_
        refine AOps.gf 32 rfl rfl rfl rfl rfl ?_
        refine AOps.gf 33 rfl rfl rfl rfl rfl ?_
        refine AOps.gf 34 rfl rfl rfl rfl rfl ?_
        refine AOps.gf 35 rfl rfl rfl rfl rfl ?_
        refine AOps.st 36 rfl rfl rfl (op_pick rfl rfl rfl ?_)
        refine AOps.nil ?_
        refine BoolQ.mk rfl ?_ (by repeat' (first | exact SLe.wo _ _ | exact SLe.refl _ | refine SLe.fresh rfl ?_)) (by first | exact MLe.none _ | exact MLe.refl _ | (repeat' (first | exact MLe.nil | exact MLe.refl _ | refine MLe.cons _ ?_ | refine MLe.drop _ ?_)))
        first | (simp_all; done) | grind
    intro c36 h36
    refine go_code ?_
    rcases bool_split h36 with ⟨rfl, g36⟩ | ⟨rfl, g36⟩
    · refine c_cond_f rfl ?_
      refine c_skip ?_
      refine go_code ?_
      refine c_seq ?_
      refine c_drawnE [0, 1, 2, 3, 4, 5, 6, 7, 8, 9, 10, 11, 12, 13, 14, 15, 16] [10] [[], [], [1], [1, 2], [1, 2, 3], [0], [0, 5], [0, 1, 2, 3, 4, 5, 6], [], [], [0, 1, 2, 3, 4, 5, 6, 7, 8, 9], [0, 1, 2, 3, 4, 5, 6, 7, 8, 9, 10], [0, 1, 2, 3, 4, 5, 6, 7, 8, 9, 10, 11], [0, 1, 2, 3, 4, 5, 6, 7, 8, 9, 10, 11, 12], [0, 1, 2, 3, 4, 5, 6, 7, 8, 9, 10, 11, 12], [0, 1, 2, 3, 4, 5, 6, 7, 8, 9, 10, 11, 12, 13], [0, 1, 2, 3, 4, 5, 6, 7, 8, 9, 10, 11, 12, 13, 14, 15]] tmix rfl ?_
      refine EOps.d 38 (none) (i := 0) rfl rfl rfl rfl rfl (op_move rfl rfl ⟨rfl, rfl⟩) ?_
      refine EOps.d 39 (none) (i := 1) rfl rfl rfl rfl rfl (op_move rfl rfl ⟨rfl, rfl⟩) ?_
      first | (refine EOps.d 40 (none) (i := 2) rfl rfl rfl rfl rfl (op_nilCheck_m rfl rfl ⟨rfl, rfl⟩) ?_) | (refine EOps.d 40 (none) (i := 2) rfl rfl rfl rfl rfl (op_nilCheck_c rfl rfl ⟨rfl, rfl⟩) ?_) | (refine EOps.d 40 (none) (i := 2) rfl rfl rfl rfl rfl (op_nilCheck_f rfl rfl ⟨rfl, rfl⟩) ?_)
      first | (refine EOps.d 41 (none) (i := 3) rfl rfl rfl rfl rfl (op_fieldAddr_m rfl tf_81_2 rfl ⟨rfl, rfl⟩) ?_) | (refine EOps.d 41 (none) (i := 3) rfl rfl rfl rfl rfl (op_fieldAddr_c rfl tf_81_2 rfl rfl ⟨rfl, rfl⟩) ?_)
      first | (refine EOps.d 42 (some 0) (i := 4) rfl rfl rfl rfl rfl (op_load_m1 (i := 0) rfl ta_3 rfl rfl rfl ⟨rfl, rfl⟩) ?_) | (refine EOps.d 42 (some 1) (i := 4) rfl rfl rfl rfl rfl (op_load_m1 (i := 0) rfl ta_3 rfl rfl rfl ⟨rfl, rfl⟩) ?_) | (refine EOps.d 42 (some 2) (i := 4) rfl rfl rfl rfl rfl (op_load_m1 (i := 0) rfl ta_3 rfl rfl rfl ⟨rfl, rfl⟩) ?_) | (refine EOps.d 42 (some 3) (i := 4) rfl rfl rfl rfl rfl (op_load_m1 (i := 0) rfl ta_3 rfl rfl rfl ⟨rfl, rfl⟩) ?_) | (refine EOps.d 42 (some 4) (i := 4) rfl rfl rfl rfl rfl (op_load_m1 (i := 0) rfl ta_3 rfl rfl rfl ⟨rfl, rfl⟩) ?_) | (refine EOps.d 42 (some 5) (i := 4) rfl rfl rfl rfl rfl (op_load_m1 (i := 0) rfl ta_3 rfl rfl rfl ⟨rfl, rfl⟩) ?_) | (refine EOps.d 42 (some 6) (i := 4) rfl rfl rfl rfl rfl (op_load_m1 (i := 0) rfl ta_3 rfl rfl rfl ⟨rfl, rfl⟩) ?_) | (refine EOps.d 42 (some 7) (i := 4) rfl rfl rfl rfl rfl (op_load_m1 (i := 0) rfl ta_3 rfl rfl rfl ⟨rfl, rfl⟩) ?_) | (refine EOps.d 42 (some 8) (i := 4) rfl rfl rfl rfl rfl (op_load_m1 (i := 0) rfl ta_3 rfl rfl rfl ⟨rfl, rfl⟩) ?_) | (refine EOps.d 42 (some 9) (i := 4) rfl rfl rfl rfl rfl (op_load_m1 (i := 0) rfl ta_3 rfl rfl rfl ⟨rfl, rfl⟩) ?_) | (refine EOps.d 42 (none) (i := 4) rfl rfl rfl rfl rfl (op_load_c1 rfl ta_3 rfl rfl ⟨rfl, rfl⟩) ?_)
      first | (refine EOps.d 43 (none) (i := 5) rfl rfl rfl rfl rfl (op_nilCheck_m rfl rfl ⟨rfl, rfl⟩) ?_) | (refine EOps.d 43 (none) (i := 5) rfl rfl rfl rfl rfl (op_nilCheck_c rfl rfl ⟨rfl, rfl⟩) ?_) | (refine EOps.d 43 (none) (i := 5) rfl rfl rfl rfl rfl (op_nilCheck_f rfl rfl ⟨rfl, rfl⟩) ?_)
      first | (refine EOps.d 44 (none) (i := 6) rfl rfl rfl rfl rfl (op_fieldAddr_m rfl tf_81_1 rfl ⟨rfl, rfl⟩) ?_) | (refine EOps.d 44 (none) (i := 6) rfl rfl rfl rfl rfl (op_fieldAddr_c rfl tf_81_1 rfl rfl ⟨rfl, rfl⟩) ?_)
      first | (refine EOps.d 45 (none) (i := 7) rfl rfl rfl rfl rfl (op_index_arrm (k := 0) rfl tu_79 ts_77 rfl rfl rfl (by decide) ⟨rfl, rfl⟩) ?_) | (refine EOps.d 45 (none) (i := 7) rfl rfl rfl rfl rfl (op_index_arrm (k := 1) rfl tu_79 ts_77 rfl rfl rfl (by decide) ⟨rfl, rfl⟩) ?_)
      refine EOps.d 46 (none) (i := 8) rfl rfl rfl rfl rfl (op_move rfl rfl ⟨rfl, rfl⟩) ?_
      refine EOps.d 47 (none) (i := 9) rfl rfl rfl rfl rfl (op_move rfl rfl ⟨rfl, rfl⟩) ?_
      refine EOps.wh (i := 10) rfl rfl rfl rfl (op_callat [0,0,0] (xs := [.tmp 45, .tmp 46, .tmp 47])  rfl rfl rfl (hpf _ _) (by first | exact Les.refl _ | (repeat' (first | exact Les.refl _ | refine Les.cons ?_ ?_ | exact Le.refl _ | exact Le.own _ _ _ | exact Le.nil _ | refine Le.agg ?_))) ?_)
      rintro v1 M1 ⟨rfl, g1, c1, g2, c2, rfl⟩
      refine EOps.d 49 (none) (i := 11) rfl rfl rfl rfl rfl (op_callp (xs := [.tmp 48]) rfl rfl (hPtr) (by first | exact Les.refl _ | (repeat' (first | exact Les.refl _ | refine Les.cons ?_ ?_ | exact Le.refl _ | exact Le.own _ _ _ | exact Le.nil _ | refine Le.agg ?_))) ⟨rfl, rfl⟩) ?_
      refine EOps.d 37 (none) (i := 12) rfl rfl rfl rfl rfl (op_move rfl rfl ⟨rfl, rfl⟩) ?_
      refine EOps.d 50 (none) (i := 13) rfl rfl rfl rfl rfl (op_extract rfl rfl rfl ⟨rfl, rfl⟩) ?_
      refine EOps.d 51 (none) (i := 14) rfl rfl rfl rfl rfl (op_extract rfl rfl rfl ⟨rfl, rfl⟩) ?_
      refine EOps.d 12 (none) (i := 15) rfl rfl rfl rfl rfl (op_assign rfl rfl ⟨rfl, rfl⟩) ?_
      refine EOps.d 13 (none) (i := 16) rfl rfl rfl rfl rfl (op_assign rfl rfl ⟨rfl, rfl⟩) ?_
      show AGo _ _ _ _ _ _ _
      refine go_code ?_
      refine c_seq ?_
      refine c_region ?_
      refine AOps.st 52 rfl rfl rfl (op_move rfl rfl ?_)
      refine AOps.st 8 rfl rfl rfl (op_assign rfl rfl ?_)
      refine AOps.st 9 rfl rfl rfl (op_assign rfl rfl ?_)
      refine AOps.nil ?_
      refine go_code ?_
      refine c_ret ?_
      exact out_tt rfl rfl rfl (Le.refl _) (by first | exact MLe.none _ | exact MLe.refl _ | (repeat' (first | exact MLe.nil | exact MLe.refl _ | refine MLe.cons _ ?_ | refine MLe.drop _ ?_))) (.inl ⟨Classical.not_not.1 g36, rfl, hpush false g1 c1 g2 c2 _ _⟩)
    · refine c_cond_t rfl ?_
      refine c_seq ?_
      refine c_region ?_
      refine AOps.st 8 rfl rfl rfl (op_assign rfl rfl ?_)
      refine AOps.st 9 rfl rfl rfl (op_assign rfl rfl ?_)
      refine AOps.nil ?_
      refine go_code ?_
      refine c_ret ?_
      exact out_tt rfl rfl rfl (Le.refl _) (by first | exact MLe.none _ | exact MLe.refl _ | (repeat' (first | exact MLe.nil | exact MLe.refl _ | refine MLe.cons _ ?_ | refine MLe.drop _ ?_))) (.inr ⟨g36, rfl, rfl⟩)
  · simp only [spc] at hpf hpt hR hpush ⊢
    refine ACall.enter Try.func22 rfl (by kernel_rfl) rfl (Nat.le_of_ble_eq_true rfl) ?_
    refine c_start ?_
    refine c_seq ?_
    refine c_region ?_
    refine AOps.st 8 rfl rfl rfl (op_assign rfl rfl ?_)
    refine AOps.st 9 rfl rfl rfl (op_assign rfl rfl ?_)
    refine AOps.nil ?_
    refine go_code ?_
    refine c_seq ?_
    refine c_region ?_
    refine AOps.st 15 rfl rfl rfl (op_move rfl rfl ?_)
    refine AOps.st 16 rfl rfl rfl (op_move rfl rfl ?_)
    refine AOps.st 17 rfl rfl rfl (op_move rfl rfl ?_)
    first | (refine AOps.st 18 rfl rfl rfl (op_len rfl tu_34 rfl (.seq _ _) (fun n18 => ?_))) | (refine AOps.st 18 rfl rfl rfl (op_len rfl tu_34 rfl (.own _ _ _) (fun n18 => ?_))) | (refine AOps.st 18 rfl rfl rfl (op_len rfl tu_34 rfl (.nil 0) (fun n18 => ?_))) | (refine AOps.st 18 rfl rfl rfl (op_len_arr rfl tu_34 rfl ?_))
    refine AOps.st 19 rfl rfl rfl (op_callp (xs := [.tmp 15, .tmp 16, .tmp 18]) rfl rfl (hHd) (by first | exact Les.refl _ | (repeat' (first | exact Les.refl _ | refine Les.cons ?_ ?_ | exact Le.refl _ | exact Le.own _ _ _ | exact Le.nil _ | refine Le.agg ?_))) ?_)
    refine AOps.st 14 rfl rfl rfl (op_move rfl rfl ?_)
    refine AOps.st 20 rfl rfl rfl (op_extract rfl rfl rfl ?_)
    refine AOps.st 21 rfl rfl rfl (op_extract rfl rfl rfl ?_)
    refine AOps.st 10 rfl rfl rfl (op_assign rfl rfl ?_)
    refine AOps.st 11 rfl rfl rfl (op_assign rfl rfl ?_)
    refine AOps.nil ?_
    refine go_code ?_
    refine c_seq ?_
    refine c_seq ?_
    refine c_bool 36 (¬ (ok = true ∧ 0 < ps.length ∧ (used H : Int) + ps.length + 1 ≤ sz)) ?_ _ _ rfl ?_
    · skip
      refine AOps.st 22 rfl rfl rfl (op_move rfl rfl ?_)
      refine AOps.st 23 rfl rfl rfl (op_neq rfl rfl rfl ?_); intro c23 h23
      refine AOps.st 24 rfl rfl rfl (op_move rfl rfl ?_)
      rcases bool_split h23 with ⟨rfl, g23⟩ | ⟨rfl, g23⟩
      · skip
        refine AOps.gt 25 rfl rfl rfl rfl rfl (op_move rfl rfl ?_)
        first | (refine AOps.gt 26 rfl rfl rfl rfl rfl (op_len rfl tu_34 rfl (.seq _ _) (fun n26 => ?_))) | (refine AOps.gt 26 rfl rfl rfl rfl rfl (op_len rfl tu_34 rfl (.own _ _ _) (fun n26 => ?_))) | (refine AOps.gt 26 rfl rfl rfl rfl rfl (op_len rfl tu_34 rfl (.nil 0) (fun n26 => ?_))) | (refine AOps.gt 26 rfl rfl rfl rfl rfl (op_len_arr rfl tu_34 rfl ?_))
        refine AOps.gt 27 rfl rfl rfl rfl rfl (op_eql rfl rfl rfl ?_); intro c27 h27
        refine AOps.st 28 rfl rfl rfl (op_pick rfl rfl rfl ?_)
        refine AOps.st 29 rfl rfl rfl (op_move rfl rfl ?_)
        rcases bool_split h27 with ⟨rfl, g27⟩ | ⟨rfl, g27⟩
        · skip
          refine AOps.gt 30 rfl rfl rfl rfl rfl (op_move rfl rfl ?_)
          refine AOps.gt 31 rfl rfl rfl rfl rfl (op_move rfl rfl ?_)
          first | (refine AOps.gt 32 rfl rfl rfl rfl rfl (op_len rfl tu_34 rfl (.seq _ _) (fun n32 => ?_))) | (refine AOps.gt 32 rfl rfl rfl rfl rfl (op_len rfl tu_34 rfl (.own _ _ _) (fun n32 => ?_))) | (refine AOps.gt 32 rfl rfl rfl rfl rfl (op_len rfl tu_34 rfl (.nil 0) (fun n32 => ?_))) | (refine AOps.gt 32 rfl rfl rfl rfl rfl (op_len_arr rfl tu_34 rfl ?_))
          first | (refine AOps.gt 33 rfl rfl rfl rfl rfl (op_add rfl rfl rfl (IntWalk.i64_in _ (by omega)) ?_)) | (refine AOps.gt 33 rfl rfl rfl rfl rfl (op_add rfl rfl rfl rfl ?_))
          refine AOps.gt 34 rfl rfl rfl rfl rfl (op_callkb (xs := [.tmp 30, .tmp 33]) [0,0,0] rfl rfl rfl (hR) (by first | exact Les.refl _ | (repeat' (first | exact Les.refl _ | refine Les.cons ?_ ?_ | exact Le.refl _ | exact Le.own _ _ _ | exact Le.nil _ | refine Le.agg ?_))) ?_); intro c34 h34
          refine AOps.gt 35 rfl rfl rfl rfl rfl (op_notc rfl rfl ?_); intro c35 h35
          try replace h35 := nott h35 h34
          refine AOps.st 36 rfl rfl rfl (op_pick rfl rfl rfl ?_)
          refine AOps.nil ?_
          refine BoolQ.mk rfl ?_ (by repeat' (first | exact SLe.wo _ _ | exact SLe.refl _ | refine SLe.fresh rfl ?_)) (by first | exact MLe.none _ | exact MLe.refl _ | (repeat' (first | exact MLe.nil | exact MLe.refl _ | refine MLe.cons _ ?_ | refine MLe.drop _ ?_)))
          first | (simp_all; done) | grind
        · skip
          refine AOps.gf 30 rfl rfl rfl rfl rfl ?_
          refine AOps.gf 31 rfl rfl rfl rfl rfl ?_
          refine AOps.gf 32 rfl rfl rfl rfl rfl ?_
          refine AOps.gf 33 rfl rfl rfl rfl rfl ?_
          refine AOps.gf 34 rfl rfl rfl rfl rfl ?_
          refine AOps.gf 35 rfl rfl rfl rfl rfl ?_
          refine AOps.st 36 rfl rfl rfl (op_pick rfl rfl rfl ?_)
          refine AOps.nil ?_
          refine BoolQ.mk rfl ?_ (by repeat' (first | exact SLe.wo _ _ | exact SLe.refl _ | refine SLe.fresh rfl ?_)) (by first | exact MLe.none _ | exact MLe.refl _ | (repeat' (first | exact MLe.nil | exact MLe.refl _ | refine MLe.cons _ ?_ | refine MLe.drop _ ?_)))
          first | (simp_all; done) | grind
      · skip
        refine AOps.gf 25 rfl rfl rfl rfl rfl ?_
        refine AOps.gf 26 rfl rfl rfl rfl rfl ?_
        refine AOps.gf 27 rfl rfl rfl rfl rfl ?_
        refine AOps.st 28 rfl rfl rfl (op_pick rfl rfl rfl ?_)
        refine AOps.st 29 rfl rfl rfl (op_move rfl rfl ?_)
        refine AOps.gf 30 rfl rfl rfl rfl rfl ?_
        refine AOps.gf 31 rfl rfl rfl rfl rfl ?_
        refine AOps.gf 32 rfl rfl rfl rfl rfl ?_
        refine AOps.gf 33 rfl rfl rfl rfl rfl ?_
        refine AOps.gf 34 rfl rfl rfl rfl rfl ?_
        refine AOps.gf 35 rfl rfl rfl rfl rfl ?_
        refine AOps.st 36 rfl rfl rfl (op_pick rfl rfl rfl ?_)
        refine AOps.nil ?_
        refine BoolQ.mk rfl ?_ (by repeat' (first | exact SLe.wo _ _ | exact SLe.refl _ | refine SLe.fresh rfl ?_)) (by first | exact MLe.none _ | exact MLe.refl _ | (repeat' (first | exact MLe.nil | exact MLe.refl _ | refine MLe.cons _ ?_ | refine MLe.drop _ ?_)))
        first | (simp_all; done) | grind
    intro c36 h36
    refine go_code ?_
    rcases bool_split h36 with ⟨rfl, g36⟩ | ⟨rfl, g36⟩
    · refine c_cond_f rfl ?_
      refine c_skip ?_
      refine go_code ?_
      refine c_seq ?_
      refine c_drawnE [0, 1, 2, 3, 4, 5, 6, 7, 8, 9, 10, 11, 12, 13, 14, 15, 16] [10] [[], [], [1], [1, 2], [1, 2, 3], [0], [0, 5], [0, 1, 2, 3, 4, 5, 6], [], [], [0, 1, 2, 3, 4, 5, 6, 7, 8, 9], [0, 1, 2, 3, 4, 5, 6, 7, 8, 9, 10], [0, 1, 2, 3, 4, 5, 6, 7, 8, 9, 10, 11], [0, 1, 2, 3, 4, 5, 6, 7, 8, 9, 10, 11, 12], [0, 1, 2, 3, 4, 5, 6, 7, 8, 9, 10, 11, 12], [0, 1, 2, 3, 4, 5, 6, 7, 8, 9, 10, 11, 12, 13], [0, 1, 2, 3, 4, 5, 6, 7, 8, 9, 10, 11, 12, 13, 14, 15]] tmix rfl ?_
      refine EOps.d 38 (none) (i := 0) rfl rfl rfl rfl rfl (op_move rfl rfl ⟨rfl, rfl⟩) ?_
      refine EOps.d 39 (none) (i := 1) rfl rfl rfl rfl rfl (op_move rfl rfl ⟨rfl, rfl⟩) ?_
      first | (refine EOps.d 40 (none) (i := 2) rfl rfl rfl rfl rfl (op_nilCheck_m rfl rfl ⟨rfl, rfl⟩) ?_) | (refine EOps.d 40 (none) (i := 2) rfl rfl rfl rfl rfl (op_nilCheck_c rfl rfl ⟨rfl, rfl⟩) ?_) | (refine EOps.d 40 (none) (i := 2) rfl rfl rfl rfl rfl (op_nilCheck_f rfl rfl ⟨rfl, rfl⟩) ?_)
      first | (refine EOps.d 41 (none) (i := 3) rfl rfl rfl rfl rfl (op_fieldAddr_m rfl tf_81_2 rfl ⟨rfl, rfl⟩) ?_) | (refine EOps.d 41 (none) (i := 3) rfl rfl rfl rfl rfl (op_fieldAddr_c rfl tf_81_2 rfl rfl ⟨rfl, rfl⟩) ?_)
      first | (refine EOps.d 42 (some 0) (i := 4) rfl rfl rfl rfl rfl (op_load_m1 (i := 0) rfl ta_3 rfl rfl rfl ⟨rfl, rfl⟩) ?_) | (refine EOps.d 42 (some 1) (i := 4) rfl rfl rfl rfl rfl (op_load_m1 (i := 0) rfl ta_3 rfl rfl rfl ⟨rfl, rfl⟩) ?_) | (refine EOps.d 42 (some 2) (i := 4) rfl rfl rfl rfl rfl (op_load_m1 (i := 0) rfl ta_3 rfl rfl rfl ⟨rfl, rfl⟩) ?_) | (refine EOps.d 42 (some 3) (i := 4) rfl rfl rfl rfl rfl (op_load_m1 (i := 0) rfl ta_3 rfl rfl rfl ⟨rfl, rfl⟩) ?_) | (refine EOps.d 42 (some 4) (i := 4) rfl rfl rfl rfl rfl (op_load_m1 (i := 0) rfl ta_3 rfl rfl rfl ⟨rfl, rfl⟩) ?_) | (refine EOps.d 42 (some 5) (i := 4) rfl rfl rfl rfl rfl (op_load_m1 (i := 0) rfl ta_3 rfl rfl rfl ⟨rfl, rfl⟩) ?_) | (refine EOps.d 42 (some 6) (i := 4) rfl rfl rfl rfl rfl (op_load_m1 (i := 0) rfl ta_3 rfl rfl rfl ⟨rfl, rfl⟩) ?_) | (refine EOps.d 42 (some 7) (i := 4) rfl rfl rfl rfl rfl (op_load_m1 (i := 0) rfl ta_3 rfl rfl rfl ⟨rfl, rfl⟩) ?_) | (refine EOps.d 42 (some 8) (i := 4) rfl rfl rfl rfl rfl (op_load_m1 (i := 0) rfl ta_3 rfl rfl rfl ⟨rfl, rfl⟩) ?_) | (refine EOps.d 42 (some 9) (i := 4) rfl rfl rfl rfl rfl (op_load_m1 (i := 0) rfl ta_3 rfl rfl rfl ⟨rfl, rfl⟩) ?_) | (refine EOps.d 42 (none) (i := 4) rfl rfl rfl rfl rfl (op_load_c1 rfl ta_3 rfl rfl ⟨rfl, rfl⟩) ?_)
      first | (refine EOps.d 43 (none) (i := 5) rfl rfl rfl rfl rfl (op_nilCheck_m rfl rfl ⟨rfl, rfl⟩) ?_) | (refine EOps.d 43 (none) (i := 5) rfl rfl rfl rfl rfl (op_nilCheck_c rfl rfl ⟨rfl, rfl⟩) ?_) | (refine EOps.d 43 (none) (i := 5) rfl rfl rfl rfl rfl (op_nilCheck_f rfl rfl ⟨rfl, rfl⟩) ?_)
      first | (refine EOps.d 44 (none) (i := 6) rfl rfl rfl rfl rfl (op_fieldAddr_m rfl tf_81_1 rfl ⟨rfl, rfl⟩) ?_) | (refine EOps.d 44 (none) (i := 6) rfl rfl rfl rfl rfl (op_fieldAddr_c rfl tf_81_1 rfl rfl ⟨rfl, rfl⟩) ?_)
      first | (refine EOps.d 45 (none) (i := 7) rfl rfl rfl rfl rfl (op_index_arrm (k := 0) rfl tu_79 ts_77 rfl rfl rfl (by decide) ⟨rfl, rfl⟩) ?_) | (refine EOps.d 45 (none) (i := 7) rfl rfl rfl rfl rfl (op_index_arrm (k := 1) rfl tu_79 ts_77 rfl rfl rfl (by decide) ⟨rfl, rfl⟩) ?_)
      refine EOps.d 46 (none) (i := 8) rfl rfl rfl rfl rfl (op_move rfl rfl ⟨rfl, rfl⟩) ?_
      refine EOps.d 47 (none) (i := 9) rfl rfl rfl rfl rfl (op_move rfl rfl ⟨rfl, rfl⟩) ?_
      refine EOps.wh (i := 10) rfl rfl rfl rfl (op_callat [0,0,0] (xs := [.tmp 45, .tmp 46, .tmp 47])  rfl rfl rfl (hpt _ _) (by first | exact Les.refl _ | (repeat' (first | exact Les.refl _ | refine Les.cons ?_ ?_ | exact Le.refl _ | exact Le.own _ _ _ | exact Le.nil _ | refine Le.agg ?_))) ?_)
      rintro v1 M1 ⟨rfl, g1, c1, g2, c2, rfl⟩
      refine EOps.d 49 (none) (i := 11) rfl rfl rfl rfl rfl (op_callp (xs := [.tmp 48]) rfl rfl (hPtr) (by first | exact Les.refl _ | (repeat' (first | exact Les.refl _ | refine Les.cons ?_ ?_ | exact Le.refl _ | exact Le.own _ _ _ | exact Le.nil _ | refine Le.agg ?_))) ⟨rfl, rfl⟩) ?_
      refine EOps.d 37 (none) (i := 12) rfl rfl rfl rfl rfl (op_move rfl rfl ⟨rfl, rfl⟩) ?_
      refine EOps.d 50 (none) (i := 13) rfl rfl rfl rfl rfl (op_extract rfl rfl rfl ⟨rfl, rfl⟩) ?_
      refine EOps.d 51 (none) (i := 14) rfl rfl rfl rfl rfl (op_extract rfl rfl rfl ⟨rfl, rfl⟩) ?_
      refine EOps.d 12 (none) (i := 15) rfl rfl rfl rfl rfl (op_assign rfl rfl ⟨rfl, rfl⟩) ?_
      refine EOps.d 13 (none) (i := 16) rfl rfl rfl rfl rfl (op_assign rfl rfl ⟨rfl, rfl⟩) ?_
      show AGo _ _ _ _ _ _ _
      refine go_code ?_
      refine c_seq ?_
      refine c_region ?_
      refine AOps.st 52 rfl rfl rfl (op_move rfl rfl ?_)
      refine AOps.st 8 rfl rfl rfl (op_assign rfl rfl ?_)
      refine AOps.st 9 rfl rfl rfl (op_assign rfl rfl ?_)
      refine AOps.nil ?_
      refine go_code ?_
      refine c_ret ?_
      exact out_tt rfl rfl rfl (Le.refl _) (by first | exact MLe.none _ | exact MLe.refl _ | (repeat' (first | exact MLe.nil | exact MLe.refl _ | refine MLe.cons _ ?_ | refine MLe.drop _ ?_))) (.inl ⟨Classical.not_not.1 g36, rfl, hpush true g1 c1 g2 c2 _ _⟩)
    · refine c_cond_t rfl ?_
      refine c_seq ?_
      refine c_region ?_
      refine AOps.st 8 rfl rfl rfl (op_assign rfl rfl ?_)
      refine AOps.st 9 rfl rfl rfl (op_assign rfl rfl ?_)
      refine AOps.nil ?_
      refine go_code ?_
      refine c_ret ?_
      exact out_tt rfl rfl rfl (Le.refl _) (by first | exact MLe.none _ | exact MLe.refl _ | (repeat' (first | exact MLe.nil | exact MLe.refl _ | refine MLe.cons _ ?_ | refine MLe.drop _ ?_))) (.inr ⟨g36, rfl, rfl⟩)
end Go.Proofs.Ytecpnlhjjmcllaa
