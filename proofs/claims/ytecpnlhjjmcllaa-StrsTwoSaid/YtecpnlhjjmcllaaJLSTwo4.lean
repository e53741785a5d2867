/- Parts of a proof: heap: space.put, Alloc.; heap: space.put from another space, mover.move. -/
import Derived.Test.YtecpnlhjjmcllaaJLSTwo3
namespace Go.Proofs.Ytecpnlhjjmcllaa
open Go.RowKit
set_option maxHeartbeats 4000000 in
set_option maxRecDepth 100000 in
theorem put_false (b : Nat) (s n x y : AV) (gw cw gb cb k : Nat) (EW EB ps : List (List AV)) (hd : Int) (hW : EW.length = k) (hB : EB.length = k) (hk : 0 < k) (hm : k + ps.length ≤ 1000000000) : ACall Try.prog 49 [.ptr b 1, .val (.int .u64 hd), .seq 1 ps] [.loc b (spc false s n (.val (rowv gw k cw)) (.val (rowv gb k cb)) x y), .row 42 1 (rowv gw k cw) EW, .row 4 1 (rowv gb k cb) EB]
    (fun v M' => v = .val (.int .i64 k) ∧ ∃ gw' cw' gb' cb', M' = [.loc b (spc false s n (.val (rowv gw' (k + 1 + ps.length) cw')) (.val (rowv gb' (k + 1 + ps.length) cb')) x y), .row 42 1 (rowv gw' (k + 1 + ps.length) cw') (EW ++ iv hd :: ps), .row 4 1 (rowv gb' (k + 1 + ps.length) cb') (EB ++ bv true :: List.replicate ps.length (bv false))]) := by
  subst hW
  refine ACall.enter Try.func49 rfl (by kernel_rfl) rfl (Nat.le_of_ble_eq_true rfl) ?_
  refine c_start ?_
  refine c_seq ?_
  refine c_region ?_
  refine AOps.st 6 rfl rfl rfl (op_assign rfl rfl ?_)
  refine AOps.nil ?_
  refine go_code ?_
  refine c_seq ?_
  refine c_region ?_
  refine AOps.st 8 rfl rfl rfl (op_move rfl rfl ?_)
  first | (refine AOps.st 9 rfl rfl rfl (op_nilCheck_m rfl rfl ?_)) | (refine AOps.st 9 rfl rfl rfl (op_nilCheck_c rfl rfl ?_)) | (refine AOps.st 9 rfl rfl rfl (op_nilCheck_f rfl rfl ?_))
  first | (refine AOps.st 10 rfl rfl rfl (op_fieldAddr_m rfl tf_77_0 rfl ?_)) | (refine AOps.st 10 rfl rfl rfl (op_fieldAddr_c rfl tf_77_0 rfl rfl ?_))
  first | (refine AOps.st 11 rfl rfl rfl (op_load_m1 (i := 0) rfl ta_34 rfl rfl rfl ?_)) | (refine AOps.st 11 rfl rfl rfl (op_load_m1 (i := 1) rfl ta_34 rfl rfl rfl ?_)) | (refine AOps.st 11 rfl rfl rfl (op_load_m1 (i := 2) rfl ta_34 rfl rfl rfl ?_)) | (refine AOps.st 11 rfl rfl rfl (op_load_m1 (i := 3) rfl ta_34 rfl rfl rfl ?_)) | (refine AOps.st 11 rfl rfl rfl (op_load_m1 (i := 4) rfl ta_34 rfl rfl rfl ?_)) | (refine AOps.st 11 rfl rfl rfl (op_load_m1 (i := 5) rfl ta_34 rfl rfl rfl ?_)) | (refine AOps.st 11 rfl rfl rfl (op_load_m1 (i := 6) rfl ta_34 rfl rfl rfl ?_)) | (refine AOps.st 11 rfl rfl rfl (op_load_m1 (i := 7) rfl ta_34 rfl rfl rfl ?_)) | (refine AOps.st 11 rfl rfl rfl (op_load_m1 (i := 8) rfl ta_34 rfl rfl rfl ?_)) | (refine AOps.st 11 rfl rfl rfl (op_load_m1 (i := 9) rfl ta_34 rfl rfl rfl ?_)) | (refine AOps.st 11 rfl rfl rfl (op_load_c1 rfl ta_34 rfl rfl ?_))
  refine AOps.st 12 rfl rfl rfl (op_len_val rfl tu_34 rfl ?_)
  refine AOps.st 7 rfl rfl rfl (op_assign rfl rfl ?_)
  refine AOps.nil ?_
  refine go_code ?_
  refine c_seq ?_
  refine c_region ?_
  refine AOps.st 13 rfl rfl rfl (op_move rfl rfl ?_)
  refine AOps.st 14 rfl rfl rfl (op_move rfl rfl ?_)
  first | (refine AOps.st 15 rfl rfl rfl (op_nilCheck_m rfl rfl ?_)) | (refine AOps.st 15 rfl rfl rfl (op_nilCheck_c rfl rfl ?_)) | (refine AOps.st 15 rfl rfl rfl (op_nilCheck_f rfl rfl ?_))
  first | (refine AOps.st 16 rfl rfl rfl (op_fieldAddr_m rfl tf_77_0 rfl ?_)) | (refine AOps.st 16 rfl rfl rfl (op_fieldAddr_c rfl tf_77_0 rfl rfl ?_))
  first | (refine AOps.st 17 rfl rfl rfl (op_load_m1 (i := 0) rfl ta_34 rfl rfl rfl ?_)) | (refine AOps.st 17 rfl rfl rfl (op_load_m1 (i := 1) rfl ta_34 rfl rfl rfl ?_)) | (refine AOps.st 17 rfl rfl rfl (op_load_m1 (i := 2) rfl ta_34 rfl rfl rfl ?_)) | (refine AOps.st 17 rfl rfl rfl (op_load_m1 (i := 3) rfl ta_34 rfl rfl rfl ?_)) | (refine AOps.st 17 rfl rfl rfl (op_load_m1 (i := 4) rfl ta_34 rfl rfl rfl ?_)) | (refine AOps.st 17 rfl rfl rfl (op_load_m1 (i := 5) rfl ta_34 rfl rfl rfl ?_)) | (refine AOps.st 17 rfl rfl rfl (op_load_m1 (i := 6) rfl ta_34 rfl rfl rfl ?_)) | (refine AOps.st 17 rfl rfl rfl (op_load_m1 (i := 7) rfl ta_34 rfl rfl rfl ?_)) | (refine AOps.st 17 rfl rfl rfl (op_load_m1 (i := 8) rfl ta_34 rfl rfl rfl ?_)) | (refine AOps.st 17 rfl rfl rfl (op_load_m1 (i := 9) rfl ta_34 rfl rfl rfl ?_)) | (refine AOps.st 17 rfl rfl rfl (op_load_c1 rfl ta_34 rfl rfl ?_))
  refine AOps.st 18 rfl rfl rfl (op_move rfl rfl ?_)
  refine AOps.st 19 rfl rfl rfl (op_buildSlice (xs := [.tmp 18]) el_34 rfl rfl rfl rfl rfl rfl (Nat.le_of_ble_eq_true rfl) ?_)
  first | (refine AOps.st 20 rfl rfl rfl (op_append_rowg (i := 1) el_34 rfl rfl rfl rfl (.seq _ _) (by first | (simp; done) | (simp; omega) | omega) (by first | (simp; done) | (simp; omega) | omega) ?_)) | (refine AOps.st 20 rfl rfl rfl (op_append_rowg (i := 1) el_34 rfl rfl rfl rfl (.own _ _ _) (by first | (simp; done) | (simp; omega) | omega) (by first | (simp; done) | (simp; omega) | omega) ?_)) | (refine AOps.st 20 rfl rfl rfl (op_append_rowg (i := 1) el_34 rfl rfl rfl rfl (.nil _) (by first | (simp; done) | (simp; omega) | omega) (by first | (simp; done) | (simp; omega) | omega) ?_))
  intro g20 a20
  refine AOps.st 21 rfl rfl rfl (op_move rfl rfl ?_)
  first | (refine AOps.st 22 rfl rfl rfl (op_append_rowg (i := 1) el_34 rfl rfl rfl rfl (.seq _ _) (by first | (simp; done) | (simp; omega) | omega) (by first | (simp; done) | (simp; omega) | omega) ?_)) | (refine AOps.st 22 rfl rfl rfl (op_append_rowg (i := 1) el_34 rfl rfl rfl rfl (.own _ _ _) (by first | (simp; done) | (simp; omega) | omega) (by first | (simp; done) | (simp; omega) | omega) ?_)) | (refine AOps.st 22 rfl rfl rfl (op_append_rowg (i := 1) el_34 rfl rfl rfl rfl (.nil _) (by first | (simp; done) | (simp; omega) | omega) (by first | (simp; done) | (simp; omega) | omega) ?_))
  intro g22 a22
  first | (refine AOps.st 23 rfl rfl rfl (op_nilCheck_m rfl rfl ?_)) | (refine AOps.st 23 rfl rfl rfl (op_nilCheck_c rfl rfl ?_)) | (refine AOps.st 23 rfl rfl rfl (op_nilCheck_f rfl rfl ?_))
  first | (refine AOps.st 24 rfl rfl rfl (op_fieldAddr_m rfl tf_77_0 rfl ?_)) | (refine AOps.st 24 rfl rfl rfl (op_fieldAddr_c rfl tf_77_0 rfl rfl ?_))
  first | (refine AOps.st0 rfl rfl (op_store (i := 0) rfl ts_34 rfl rfl rfl rfl rfl (Nat.le_of_ble_eq_true rfl) rfl ?_)) | (refine AOps.st0 rfl rfl (op_store (i := 1) rfl ts_34 rfl rfl rfl rfl rfl (Nat.le_of_ble_eq_true rfl) rfl ?_)) | (refine AOps.st0 rfl rfl (op_store (i := 2) rfl ts_34 rfl rfl rfl rfl rfl (Nat.le_of_ble_eq_true rfl) rfl ?_)) | (refine AOps.st0 rfl rfl (op_store (i := 3) rfl ts_34 rfl rfl rfl rfl rfl (Nat.le_of_ble_eq_true rfl) rfl ?_)) | (refine AOps.st0 rfl rfl (op_store (i := 4) rfl ts_34 rfl rfl rfl rfl rfl (Nat.le_of_ble_eq_true rfl) rfl ?_)) | (refine AOps.st0 rfl rfl (op_store (i := 5) rfl ts_34 rfl rfl rfl rfl rfl (Nat.le_of_ble_eq_true rfl) rfl ?_)) | (refine AOps.st0 rfl rfl (op_store (i := 6) rfl ts_34 rfl rfl rfl rfl rfl (Nat.le_of_ble_eq_true rfl) rfl ?_)) | (refine AOps.st0 rfl rfl (op_store (i := 7) rfl ts_34 rfl rfl rfl rfl rfl (Nat.le_of_ble_eq_true rfl) rfl ?_)) | (refine AOps.st0 rfl rfl (op_store (i := 8) rfl ts_34 rfl rfl rfl rfl rfl (Nat.le_of_ble_eq_true rfl) rfl ?_)) | (refine AOps.st0 rfl rfl (op_store (i := 9) rfl ts_34 rfl rfl rfl rfl rfl (Nat.le_of_ble_eq_true rfl) rfl ?_))
  refine AOps.nil ?_
  refine go_code ?_
  refine c_seq ?_
  refine c_region ?_
  refine AOps.st 25 rfl rfl rfl (op_move rfl rfl ?_)
  refine AOps.st 26 rfl rfl rfl (op_move rfl rfl ?_)
  first | (refine AOps.st 27 rfl rfl rfl (op_nilCheck_m rfl rfl ?_)) | (refine AOps.st 27 rfl rfl rfl (op_nilCheck_c rfl rfl ?_)) | (refine AOps.st 27 rfl rfl rfl (op_nilCheck_f rfl rfl ?_))
  first | (refine AOps.st 28 rfl rfl rfl (op_fieldAddr_m rfl tf_77_1 rfl ?_)) | (refine AOps.st 28 rfl rfl rfl (op_fieldAddr_c rfl tf_77_1 rfl rfl ?_))
  first | (refine AOps.st 29 rfl rfl rfl (op_load_m1 (i := 0) rfl ta_75 rfl rfl rfl ?_)) | (refine AOps.st 29 rfl rfl rfl (op_load_m1 (i := 1) rfl ta_75 rfl rfl rfl ?_)) | (refine AOps.st 29 rfl rfl rfl (op_load_m1 (i := 2) rfl ta_75 rfl rfl rfl ?_)) | (refine AOps.st 29 rfl rfl rfl (op_load_m1 (i := 3) rfl ta_75 rfl rfl rfl ?_)) | (refine AOps.st 29 rfl rfl rfl (op_load_m1 (i := 4) rfl ta_75 rfl rfl rfl ?_)) | (refine AOps.st 29 rfl rfl rfl (op_load_m1 (i := 5) rfl ta_75 rfl rfl rfl ?_)) | (refine AOps.st 29 rfl rfl rfl (op_load_m1 (i := 6) rfl ta_75 rfl rfl rfl ?_)) | (refine AOps.st 29 rfl rfl rfl (op_load_m1 (i := 7) rfl ta_75 rfl rfl rfl ?_)) | (refine AOps.st 29 rfl rfl rfl (op_load_m1 (i := 8) rfl ta_75 rfl rfl rfl ?_)) | (refine AOps.st 29 rfl rfl rfl (op_load_m1 (i := 9) rfl ta_75 rfl rfl rfl ?_)) | (refine AOps.st 29 rfl rfl rfl (op_load_c1 rfl ta_75 rfl rfl ?_))
  refine AOps.st 30 rfl rfl rfl (op_buildSlice (xs := [.const (.bool true)]) el_75 rfl rfl rfl rfl rfl rfl (Nat.le_of_ble_eq_true rfl) ?_)
  first | (refine AOps.st 31 rfl rfl rfl (op_append_rowg (i := 2) el_75 rfl rfl rfl rfl (.seq _ _) (by first | (simp; done) | (simp; omega) | omega) (by first | (simp; done) | (simp; omega) | omega) ?_)) | (refine AOps.st 31 rfl rfl rfl (op_append_rowg (i := 2) el_75 rfl rfl rfl rfl (.own _ _ _) (by first | (simp; done) | (simp; omega) | omega) (by first | (simp; done) | (simp; omega) | omega) ?_)) | (refine AOps.st 31 rfl rfl rfl (op_append_rowg (i := 2) el_75 rfl rfl rfl rfl (.nil _) (by first | (simp; done) | (simp; omega) | omega) (by first | (simp; done) | (simp; omega) | omega) ?_))
  intro g31 a31
  first | (refine AOps.st 32 rfl rfl rfl (op_nilCheck_m rfl rfl ?_)) | (refine AOps.st 32 rfl rfl rfl (op_nilCheck_c rfl rfl ?_)) | (refine AOps.st 32 rfl rfl rfl (op_nilCheck_f rfl rfl ?_))
  first | (refine AOps.st 33 rfl rfl rfl (op_fieldAddr_m rfl tf_77_1 rfl ?_)) | (refine AOps.st 33 rfl rfl rfl (op_fieldAddr_c rfl tf_77_1 rfl rfl ?_))
  first | (refine AOps.st0 rfl rfl (op_store (i := 0) rfl ts_75 rfl rfl rfl rfl rfl (Nat.le_of_ble_eq_true rfl) rfl ?_)) | (refine AOps.st0 rfl rfl (op_store (i := 1) rfl ts_75 rfl rfl rfl rfl rfl (Nat.le_of_ble_eq_true rfl) rfl ?_)) | (refine AOps.st0 rfl rfl (op_store (i := 2) rfl ts_75 rfl rfl rfl rfl rfl (Nat.le_of_ble_eq_true rfl) rfl ?_)) | (refine AOps.st0 rfl rfl (op_store (i := 3) rfl ts_75 rfl rfl rfl rfl rfl (Nat.le_of_ble_eq_true rfl) rfl ?_)) | (refine AOps.st0 rfl rfl (op_store (i := 4) rfl ts_75 rfl rfl rfl rfl rfl (Nat.le_of_ble_eq_true rfl) rfl ?_)) | (refine AOps.st0 rfl rfl (op_store (i := 5) rfl ts_75 rfl rfl rfl rfl rfl (Nat.le_of_ble_eq_true rfl) rfl ?_)) | (refine AOps.st0 rfl rfl (op_store (i := 6) rfl ts_75 rfl rfl rfl rfl rfl (Nat.le_of_ble_eq_true rfl) rfl ?_)) | (refine AOps.st0 rfl rfl (op_store (i := 7) rfl ts_75 rfl rfl rfl rfl rfl (Nat.le_of_ble_eq_true rfl) rfl ?_)) | (refine AOps.st0 rfl rfl (op_store (i := 8) rfl ts_75 rfl rfl rfl rfl rfl (Nat.le_of_ble_eq_true rfl) rfl ?_)) | (refine AOps.st0 rfl rfl (op_store (i := 9) rfl ts_75 rfl rfl rfl rfl rfl (Nat.le_of_ble_eq_true rfl) rfl ?_))
  refine AOps.nil ?_
  refine go_code ?_
  refine c_seq ?_
  refine c_seq ?_
  refine c_region ?_
  refine AOps.st 34 rfl rfl rfl (op_move rfl rfl ?_)
  first | (refine AOps.st 35 rfl rfl rfl (op_len rfl tu_34 rfl (.seq _ _) (fun n35 => ?_))) | (refine AOps.st 35 rfl rfl rfl (op_len rfl tu_34 rfl (.own _ _ _) (fun n35 => ?_))) | (refine AOps.st 35 rfl rfl rfl (op_len rfl tu_34 rfl (.nil 0) (fun n35 => ?_))) | (refine AOps.st 35 rfl rfl rfl (op_len_arr rfl tu_34 rfl ?_))
  refine AOps.st 36 rfl rfl rfl (op_move rfl rfl ?_)
  refine AOps.nil ?_
  refine go_code ?_
  refine c_block ?_
  apply c_loopk [1, 2, 3, 4, 5, 8, 9, 10, 11, 12, 13, 14, 15, 16, 17, 18, 19, 20, 21, 22, 23, 24, 25, 26, 27, 28, 29, 30, 31, 32, 33, 34, 36, 37, 38, 39, 40, 41, 42, 43, 44, 45, 46, 47] (σ := Nat × Nat × Nat) (fun zz => match zz with | (j, g, c) => [(36, .val (.int .i64 j))]) (fun zz => match zz with | (j, g, c) => [.loc b (spc false s n (.val (rowv g22 (EW.length + 1 + ps.length) a22)) (.val (rowv g (EW.length + 1 + j) c)) x y), .row 42 1 (rowv g22 (EW.length + 1 + ps.length) a22) (EW ++ [iv hd] ++ ps), .row 4 1 (rowv g (EW.length + 1 + j) c) (EB ++ [bv true] ++ List.replicate j (bv false))]) (fun zz => match zz with | (j, g, c) => j ≤ ps.length) (fun zz => match zz with | (j, g, c) => ps.length - j) ((0, g31, a31))
  · repeat' (first | exact Drops.nil | apply Drops.keep rfl | apply Drops.skip rfl)
  · exact Nat.zero_le _
  · exact (by repeat' (first | exact SLe.nil _ | refine SLe.cons rfl ?_ ?_ | exact Le.refl _ | exact Le.own _ _ _ | exact Le.nil _))
  · exact (MLe.of_eq (by simp [hB, spc, setL, AV.cells, iv, bv]))
  rintro ⟨j, g, c⟩ hI
  try dsimp only [List.cons_append, List.nil_append] at hI ⊢
  refine c_seq ?_
  refine c_region ?_
  refine AOps.st 37 rfl rfl rfl (op_lss rfl rfl rfl ?_); intro c37 h37
  refine AOps.nil ?_
  refine go_code ?_
  refine c_seq ?_
  rcases bool_split h37 with ⟨rfl, g37⟩ | ⟨rfl, g37⟩
  · refine c_cond_f rfl ?_
    refine c_exit ?_
    refine x_code ?_
    refine x_lp ?_
    refine x_here ?_
    refine go_code ?_
    refine c_seq ?_
    obtain rfl : j = ps.length := by omega
    refine c_region ?_
    refine AOps.st 48 rfl rfl rfl (op_move rfl rfl ?_)
    refine AOps.st 6 rfl rfl rfl (op_assign rfl rfl ?_)
    refine AOps.nil ?_
    refine go_code ?_
    refine c_ret ?_
    exact out_tmp rfl rfl (Le.refl _) (MLe.of_eq (by simp)) ⟨rfl, g22, a22, g, c, rfl⟩
  · refine c_cond_t rfl ?_
    refine c_skip ?_
    refine go_code ?_
    refine c_seq ?_
    refine c_block ?_
    refine c_region ?_
    refine AOps.st 38 rfl rfl rfl (op_move rfl rfl ?_)
    refine AOps.st 39 rfl rfl rfl (op_move rfl rfl ?_)
    first | (refine AOps.st 40 rfl rfl rfl (op_nilCheck_m rfl rfl ?_)) | (refine AOps.st 40 rfl rfl rfl (op_nilCheck_c rfl rfl ?_)) | (refine AOps.st 40 rfl rfl rfl (op_nilCheck_f rfl rfl ?_))
    first | (refine AOps.st 41 rfl rfl rfl (op_fieldAddr_m rfl tf_77_1 rfl ?_)) | (refine AOps.st 41 rfl rfl rfl (op_fieldAddr_c rfl tf_77_1 rfl rfl ?_))
    first | (refine AOps.st 42 rfl rfl rfl (op_load_m1 (i := 0) rfl ta_75 rfl rfl rfl ?_)) | (refine AOps.st 42 rfl rfl rfl (op_load_m1 (i := 1) rfl ta_75 rfl rfl rfl ?_)) | (refine AOps.st 42 rfl rfl rfl (op_load_m1 (i := 2) rfl ta_75 rfl rfl rfl ?_)) | (refine AOps.st 42 rfl rfl rfl (op_load_m1 (i := 3) rfl ta_75 rfl rfl rfl ?_)) | (refine AOps.st 42 rfl rfl rfl (op_load_m1 (i := 4) rfl ta_75 rfl rfl rfl ?_)) | (refine AOps.st 42 rfl rfl rfl (op_load_m1 (i := 5) rfl ta_75 rfl rfl rfl ?_)) | (refine AOps.st 42 rfl rfl rfl (op_load_m1 (i := 6) rfl ta_75 rfl rfl rfl ?_)) | (refine AOps.st 42 rfl rfl rfl (op_load_m1 (i := 7) rfl ta_75 rfl rfl rfl ?_)) | (refine AOps.st 42 rfl rfl rfl (op_load_m1 (i := 8) rfl ta_75 rfl rfl rfl ?_)) | (refine AOps.st 42 rfl rfl rfl (op_load_m1 (i := 9) rfl ta_75 rfl rfl rfl ?_)) | (refine AOps.st 42 rfl rfl rfl (op_load_c1 rfl ta_75 rfl rfl ?_))
    refine AOps.st 43 rfl rfl rfl (op_buildSlice (xs := [.const (.bool false)]) el_75 rfl rfl rfl rfl rfl rfl (Nat.le_of_ble_eq_true rfl) ?_)
    first | (refine AOps.st 44 rfl rfl rfl (op_append_rowg (i := 2) el_75 rfl rfl rfl rfl (.seq _ _) (by first | (simp; done) | (simp; omega) | omega) (by first | (simp; done) | (simp; omega) | omega) ?_)) | (refine AOps.st 44 rfl rfl rfl (op_append_rowg (i := 2) el_75 rfl rfl rfl rfl (.own _ _ _) (by first | (simp; done) | (simp; omega) | omega) (by first | (simp; done) | (simp; omega) | omega) ?_)) | (refine AOps.st 44 rfl rfl rfl (op_append_rowg (i := 2) el_75 rfl rfl rfl rfl (.nil _) (by first | (simp; done) | (simp; omega) | omega) (by first | (simp; done) | (simp; omega) | omega) ?_))
    intro g44 a44
    first | (refine AOps.st 45 rfl rfl rfl (op_nilCheck_m rfl rfl ?_)) | (refine AOps.st 45 rfl rfl rfl (op_nilCheck_c rfl rfl ?_)) | (refine AOps.st 45 rfl rfl rfl (op_nilCheck_f rfl rfl ?_))
    first | (refine AOps.st 46 rfl rfl rfl (op_fieldAddr_m rfl tf_77_1 rfl ?_)) | (refine AOps.st 46 rfl rfl rfl (op_fieldAddr_c rfl tf_77_1 rfl rfl ?_))
    first | (refine AOps.st0 rfl rfl (op_store (i := 0) rfl ts_75 rfl rfl rfl rfl rfl (Nat.le_of_ble_eq_true rfl) rfl ?_)) | (refine AOps.st0 rfl rfl (op_store (i := 1) rfl ts_75 rfl rfl rfl rfl rfl (Nat.le_of_ble_eq_true rfl) rfl ?_)) | (refine AOps.st0 rfl rfl (op_store (i := 2) rfl ts_75 rfl rfl rfl rfl rfl (Nat.le_of_ble_eq_true rfl) rfl ?_)) | (refine AOps.st0 rfl rfl (op_store (i := 3) rfl ts_75 rfl rfl rfl rfl rfl (Nat.le_of_ble_eq_true rfl) rfl ?_)) | (refine AOps.st0 rfl rfl (op_store (i := 4) rfl ts_75 rfl rfl rfl rfl rfl (Nat.le_of_ble_eq_true rfl) rfl ?_)) | (refine AOps.st0 rfl rfl (op_store (i := 5) rfl ts_75 rfl rfl rfl rfl rfl (Nat.le_of_ble_eq_true rfl) rfl ?_)) | (refine AOps.st0 rfl rfl (op_store (i := 6) rfl ts_75 rfl rfl rfl rfl rfl (Nat.le_of_ble_eq_true rfl) rfl ?_)) | (refine AOps.st0 rfl rfl (op_store (i := 7) rfl ts_75 rfl rfl rfl rfl rfl (Nat.le_of_ble_eq_true rfl) rfl ?_)) | (refine AOps.st0 rfl rfl (op_store (i := 8) rfl ts_75 rfl rfl rfl rfl rfl (Nat.le_of_ble_eq_true rfl) rfl ?_)) | (refine AOps.st0 rfl rfl (op_store (i := 9) rfl ts_75 rfl rfl rfl rfl rfl (Nat.le_of_ble_eq_true rfl) rfl ?_))
    refine AOps.nil ?_
    refine go_blk ?_
    refine go_code ?_
    refine c_region ?_
    first | (refine AOps.st 47 rfl rfl rfl (op_add rfl rfl rfl (IntWalk.i64_in _ (by omega)) ?_)) | (refine AOps.st 47 rfl rfl rfl (op_add rfl rfl rfl rfl ?_))
    refine AOps.st 36 rfl rfl rfl (op_move rfl rfl ?_)
    refine AOps.nil ?_
    refine go_lp ?_
    exact ⟨(j + 1, g44, a44), by show j + 1 ≤ _; omega, by simp; omega, (by repeat' (first | exact SLe.nil _ | refine SLe.cons rfl ?_ ?_ | exact Le.refl _ | exact Le.own _ _ _ | exact Le.nil _)), (MLe.of_eq (by simp [hB, spc, setL, AV.cells, List.replicate_succ', Nat.add_assoc, bv]; try omega))⟩
set_option maxHeartbeats 4000000 in
set_option maxRecDepth 100000 in
theorem put_true (b : Nat) (s n x y : AV) (gw cw gb cb k : Nat) (EW EB ps : List (List AV)) (hd : Int) (hW : EW.length = k) (hB : EB.length = k) (hk : 0 < k) (hm : k + ps.length ≤ 1000000000) : ACall Try.prog 49 [.ptr b 3, .val (.int .u64 hd), .seq 1 ps] [.loc b (spc true s n (.val (rowv gw k cw)) (.val (rowv gb k cb)) x y), .row 42 1 (rowv gw k cw) EW, .row 4 1 (rowv gb k cb) EB]
    (fun v M' => v = .val (.int .i64 k) ∧ ∃ gw' cw' gb' cb', M' = [.loc b (spc true s n (.val (rowv gw' (k + 1 + ps.length) cw')) (.val (rowv gb' (k + 1 + ps.length) cb')) x y), .row 42 1 (rowv gw' (k + 1 + ps.length) cw') (EW ++ iv hd :: ps), .row 4 1 (rowv gb' (k + 1 + ps.length) cb') (EB ++ bv true :: List.replicate ps.length (bv false))]) := by
  subst hW
  refine ACall.enter Try.func49 rfl (by kernel_rfl) rfl (Nat.le_of_ble_eq_true rfl) ?_
  refine c_start ?_
  refine c_seq ?_
  refine c_region ?_
  refine AOps.st 6 rfl rfl rfl (op_assign rfl rfl ?_)
  refine AOps.nil ?_
  refine go_code ?_
  refine c_seq ?_
  refine c_region ?_
  refine AOps.st 8 rfl rfl rfl (op_move rfl rfl ?_)
  first | (refine AOps.st 9 rfl rfl rfl (op_nilCheck_m rfl rfl ?_)) | (refine AOps.st 9 rfl rfl rfl (op_nilCheck_c rfl rfl ?_)) | (refine AOps.st 9 rfl rfl rfl (op_nilCheck_f rfl rfl ?_))
  first | (refine AOps.st 10 rfl rfl rfl (op_fieldAddr_m rfl tf_77_0 rfl ?_)) | (refine AOps.st 10 rfl rfl rfl (op_fieldAddr_c rfl tf_77_0 rfl rfl ?_))
  first | (refine AOps.st 11 rfl rfl rfl (op_load_m1 (i := 0) rfl ta_34 rfl rfl rfl ?_)) | (refine AOps.st 11 rfl rfl rfl (op_load_m1 (i := 1) rfl ta_34 rfl rfl rfl ?_)) | (refine AOps.st 11 rfl rfl rfl (op_load_m1 (i := 2) rfl ta_34 rfl rfl rfl ?_)) | (refine AOps.st 11 rfl rfl rfl (op_load_m1 (i := 3) rfl ta_34 rfl rfl rfl ?_)) | (refine AOps.st 11 rfl rfl rfl (op_load_m1 (i := 4) rfl ta_34 rfl rfl rfl ?_)) | (refine AOps.st 11 rfl rfl rfl (op_load_m1 (i := 5) rfl ta_34 rfl rfl rfl ?_)) | (refine AOps.st 11 rfl rfl rfl (op_load_m1 (i := 6) rfl ta_34 rfl rfl rfl ?_)) | (refine AOps.st 11 rfl rfl rfl (op_load_m1 (i := 7) rfl ta_34 rfl rfl rfl ?_)) | (refine AOps.st 11 rfl rfl rfl (op_load_m1 (i := 8) rfl ta_34 rfl rfl rfl ?_)) | (refine AOps.st 11 rfl rfl rfl (op_load_m1 (i := 9) rfl ta_34 rfl rfl rfl ?_)) | (refine AOps.st 11 rfl rfl rfl (op_load_c1 rfl ta_34 rfl rfl ?_))
  refine AOps.st 12 rfl rfl rfl (op_len_val rfl tu_34 rfl ?_)
  refine AOps.st 7 rfl rfl rfl (op_assign rfl rfl ?_)
  refine AOps.nil ?_
  refine go_code ?_
  refine c_seq ?_
  refine c_region ?_
  refine AOps.st 13 rfl rfl rfl (op_move rfl rfl ?_)
  refine AOps.st 14 rfl rfl rfl (op_move rfl rfl ?_)
  first | (refine AOps.st 15 rfl rfl rfl (op_nilCheck_m rfl rfl ?_)) | (refine AOps.st 15 rfl rfl rfl (op_nilCheck_c rfl rfl ?_)) | (refine AOps.st 15 rfl rfl rfl (op_nilCheck_f rfl rfl ?_))
  first | (refine AOps.st 16 rfl rfl rfl (op_fieldAddr_m rfl tf_77_0 rfl ?_)) | (refine AOps.st 16 rfl rfl rfl (op_fieldAddr_c rfl tf_77_0 rfl rfl ?_))
  first | (refine AOps.st 17 rfl rfl rfl (op_load_m1 (i := 0) rfl ta_34 rfl rfl rfl ?_)) | (refine AOps.st 17 rfl rfl rfl (op_load_m1 (i := 1) rfl ta_34 rfl rfl rfl ?_)) | (refine AOps.st 17 rfl rfl rfl (op_load_m1 (i := 2) rfl ta_34 rfl rfl rfl ?_)) | (refine AOps.st 17 rfl rfl rfl (op_load_m1 (i := 3) rfl ta_34 rfl rfl rfl ?_)) | (refine AOps.st 17 rfl rfl rfl (op_load_m1 (i := 4) rfl ta_34 rfl rfl rfl ?_)) | (refine AOps.st 17 rfl rfl rfl (op_load_m1 (i := 5) rfl ta_34 rfl rfl rfl ?_)) | (refine AOps.st 17 rfl rfl rfl (op_load_m1 (i := 6) rfl ta_34 rfl rfl rfl ?_)) | (refine AOps.st 17 rfl rfl rfl (op_load_m1 (i := 7) rfl ta_34 rfl rfl rfl ?_)) | (refine AOps.st 17 rfl rfl rfl (op_load_m1 (i := 8) rfl ta_34 rfl rfl rfl ?_)) | (refine AOps.st 17 rfl rfl rfl (op_load_m1 (i := 9) rfl ta_34 rfl rfl rfl ?_)) | (refine AOps.st 17 rfl rfl rfl (op_load_c1 rfl ta_34 rfl rfl ?_))
  refine AOps.st 18 rfl rfl rfl (op_move rfl rfl ?_)
  refine AOps.st 19 rfl rfl rfl (op_buildSlice (xs := [.tmp 18]) el_34 rfl rfl rfl rfl rfl rfl (Nat.le_of_ble_eq_true rfl) ?_)
  first | (refine AOps.st 20 rfl rfl rfl (op_append_rowg (i := 1) el_34 rfl rfl rfl rfl (.seq _ _) (by first | (simp; done) | (simp; omega) | omega) (by first | (simp; done) | (simp; omega) | omega) ?_)) | (refine AOps.st 20 rfl rfl rfl (op_append_rowg (i := 1) el_34 rfl rfl rfl rfl (.own _ _ _) (by first | (simp; done) | (simp; omega) | omega) (by first | (simp; done) | (simp; omega) | omega) ?_)) | (refine AOps.st 20 rfl rfl rfl (op_append_rowg (i := 1) el_34 rfl rfl rfl rfl (.nil _) (by first | (simp; done) | (simp; omega) | omega) (by first | (simp; done) | (simp; omega) | omega) ?_))
  intro g20 a20
  refine AOps.st 21 rfl rfl rfl (op_move rfl rfl ?_)
  first | (refine AOps.st 22 rfl rfl rfl (op_append_rowg (i := 1) el_34 rfl rfl rfl rfl (.seq _ _) (by first | (simp; done) | (simp; omega) | omega) (by first | (simp; done) | (simp; omega) | omega) ?_)) | (refine AOps.st 22 rfl rfl rfl (op_append_rowg (i := 1) el_34 rfl rfl rfl rfl (.own _ _ _) (by first | (simp; done) | (simp; omega) | omega) (by first | (simp; done) | (simp; omega) | omega) ?_)) | (refine AOps.st 22 rfl rfl rfl (op_append_rowg (i := 1) el_34 rfl rfl rfl rfl (.nil _) (by first | (simp; done) | (simp; omega) | omega) (by first | (simp; done) | (simp; omega) | omega) ?_))
  intro g22 a22
  first | (refine AOps.st 23 rfl rfl rfl (op_nilCheck_m rfl rfl ?_)) | (refine AOps.st 23 rfl rfl rfl (op_nilCheck_c rfl rfl ?_)) | (refine AOps.st 23 rfl rfl rfl (op_nilCheck_f rfl rfl ?_))
  first | (refine AOps.st 24 rfl rfl rfl (op_fieldAddr_m rfl tf_77_0 rfl ?_)) | (refine AOps.st 24 rfl rfl rfl (op_fieldAddr_c rfl tf_77_0 rfl rfl ?_))
  first | (refine AOps.st0 rfl rfl (op_store (i := 0) rfl ts_34 rfl rfl rfl rfl rfl (Nat.le_of_ble_eq_true rfl) rfl ?_)) | (refine AOps.st0 rfl rfl (op_store (i := 1) rfl ts_34 rfl rfl rfl rfl rfl (Nat.le_of_ble_eq_true rfl) rfl ?_)) | (refine AOps.st0 rfl rfl (op_store (i := 2) rfl ts_34 rfl rfl rfl rfl rfl (Nat.le_of_ble_eq_true rfl) rfl ?_)) | (refine AOps.st0 rfl rfl (op_store (i := 3) rfl ts_34 rfl rfl rfl rfl rfl (Nat.le_of_ble_eq_true rfl) rfl ?_)) | (refine AOps.st0 rfl rfl (op_store (i := 4) rfl ts_34 rfl rfl rfl rfl rfl (Nat.le_of_ble_eq_true rfl) rfl ?_)) | (refine AOps.st0 rfl rfl (op_store (i := 5) rfl ts_34 rfl rfl rfl rfl rfl (Nat.le_of_ble_eq_true rfl) rfl ?_)) | (refine AOps.st0 rfl rfl (op_store (i := 6) rfl ts_34 rfl rfl rfl rfl rfl (Nat.le_of_ble_eq_true rfl) rfl ?_)) | (refine AOps.st0 rfl rfl (op_store (i := 7) rfl ts_34 rfl rfl rfl rfl rfl (Nat.le_of_ble_eq_true rfl) rfl ?_)) | (refine AOps.st0 rfl rfl (op_store (i := 8) rfl ts_34 rfl rfl rfl rfl rfl (Nat.le_of_ble_eq_true rfl) rfl ?_)) | (refine AOps.st0 rfl rfl (op_store (i := 9) rfl ts_34 rfl rfl rfl rfl rfl (Nat.le_of_ble_eq_true rfl) rfl ?_))
  refine AOps.nil ?_
  refine go_code ?_
  refine c_seq ?_
  refine c_region ?_
  refine AOps.st 25 rfl rfl rfl (op_move rfl rfl ?_)
  refine AOps.st 26 rfl rfl rfl (op_move rfl rfl ?_)
  first | (refine AOps.st 27 rfl rfl rfl (op_nilCheck_m rfl rfl ?_)) | (refine AOps.st 27 rfl rfl rfl (op_nilCheck_c rfl rfl ?_)) | (refine AOps.st 27 rfl rfl rfl (op_nilCheck_f rfl rfl ?_))
  first | (refine AOps.st 28 rfl rfl rfl (op_fieldAddr_m rfl tf_77_1 rfl ?_)) | (refine AOps.st 28 rfl rfl rfl (op_fieldAddr_c rfl tf_77_1 rfl rfl ?_))
  first | (refine AOps.st 29 rfl rfl rfl (op_load_m1 (i := 0) rfl ta_75 rfl rfl rfl ?_)) | (refine AOps.st 29 rfl rfl rfl (op_load_m1 (i := 1) rfl ta_75 rfl rfl rfl ?_)) | (refine AOps.st 29 rfl rfl rfl (op_load_m1 (i := 2) rfl ta_75 rfl rfl rfl ?_)) | (refine AOps.st 29 rfl rfl rfl (op_load_m1 (i := 3) rfl ta_75 rfl rfl rfl ?_)) | (refine AOps.st 29 rfl rfl rfl (op_load_m1 (i := 4) rfl ta_75 rfl rfl rfl ?_)) | (refine AOps.st 29 rfl rfl rfl (op_load_m1 (i := 5) rfl ta_75 rfl rfl rfl ?_)) | (refine AOps.st 29 rfl rfl rfl (op_load_m1 (i := 6) rfl ta_75 rfl rfl rfl ?_)) | (refine AOps.st 29 rfl rfl rfl (op_load_m1 (i := 7) rfl ta_75 rfl rfl rfl ?_)) | (refine AOps.st 29 rfl rfl rfl (op_load_m1 (i := 8) rfl ta_75 rfl rfl rfl ?_)) | (refine AOps.st 29 rfl rfl rfl (op_load_m1 (i := 9) rfl ta_75 rfl rfl rfl ?_)) | (refine AOps.st 29 rfl rfl rfl (op_load_c1 rfl ta_75 rfl rfl ?_))
  refine AOps.st 30 rfl rfl rfl (op_buildSlice (xs := [.const (.bool true)]) el_75 rfl rfl rfl rfl rfl rfl (Nat.le_of_ble_eq_true rfl) ?_)
  first | (refine AOps.st 31 rfl rfl rfl (op_append_rowg (i := 2) el_75 rfl rfl rfl rfl (.seq _ _) (by first | (simp; done) | (simp; omega) | omega) (by first | (simp; done) | (simp; omega) | omega) ?_)) | (refine AOps.st 31 rfl rfl rfl (op_append_rowg (i := 2) el_75 rfl rfl rfl rfl (.own _ _ _) (by first | (simp; done) | (simp; omega) | omega) (by first | (simp; done) | (simp; omega) | omega) ?_)) | (refine AOps.st 31 rfl rfl rfl (op_append_rowg (i := 2) el_75 rfl rfl rfl rfl (.nil _) (by first | (simp; done) | (simp; omega) | omega) (by first | (simp; done) | (simp; omega) | omega) ?_))
  intro g31 a31
  first | (refine AOps.st 32 rfl rfl rfl (op_nilCheck_m rfl rfl ?_)) | (refine AOps.st 32 rfl rfl rfl (op_nilCheck_c rfl rfl ?_)) | (refine AOps.st 32 rfl rfl rfl (op_nilCheck_f rfl rfl ?_))
  first | (refine AOps.st 33 rfl rfl rfl (op_fieldAddr_m rfl tf_77_1 rfl ?_)) | (refine AOps.st 33 rfl rfl rfl (op_fieldAddr_c rfl tf_77_1 rfl rfl ?_))
  first | (refine AOps.st0 rfl rfl (op_store (i := 0) rfl ts_75 rfl rfl rfl rfl rfl (Nat.le_of_ble_eq_true rfl) rfl ?_)) | (refine AOps.st0 rfl rfl (op_store (i := 1) rfl ts_75 rfl rfl rfl rfl rfl (Nat.le_of_ble_eq_true rfl) rfl ?_)) | (refine AOps.st0 rfl rfl (op_store (i := 2) rfl ts_75 rfl rfl rfl rfl rfl (Nat.le_of_ble_eq_true rfl) rfl ?_)) | (refine AOps.st0 rfl rfl (op_store (i := 3) rfl ts_75 rfl rfl rfl rfl rfl (Nat.le_of_ble_eq_true rfl) rfl ?_)) | (refine AOps.st0 rfl rfl (op_store (i := 4) rfl ts_75 rfl rfl rfl rfl rfl (Nat.le_of_ble_eq_true rfl) rfl ?_)) | (refine AOps.st0 rfl rfl (op_store (i := 5) rfl ts_75 rfl rfl rfl rfl rfl (Nat.le_of_ble_eq_true rfl) rfl ?_)) | (refine AOps.st0 rfl rfl (op_store (i := 6) rfl ts_75 rfl rfl rfl rfl rfl (Nat.le_of_ble_eq_true rfl) rfl ?_)) | (refine AOps.st0 rfl rfl (op_store (i := 7) rfl ts_75 rfl rfl rfl rfl rfl (Nat.le_of_ble_eq_true rfl) rfl ?_)) | (refine AOps.st0 rfl rfl (op_store (i := 8) rfl ts_75 rfl rfl rfl rfl rfl (Nat.le_of_ble_eq_true rfl) rfl ?_)) | (refine AOps.st0 rfl rfl (op_store (i := 9) rfl ts_75 rfl rfl rfl rfl rfl (Nat.le_of_ble_eq_true rfl) rfl ?_))
  refine AOps.nil ?_
  refine go_code ?_
  refine c_seq ?_
  refine c_seq ?_
  refine c_region ?_
  refine AOps.st 34 rfl rfl rfl (op_move rfl rfl ?_)
  first | (refine AOps.st 35 rfl rfl rfl (op_len rfl tu_34 rfl (.seq _ _) (fun n35 => ?_))) | (refine AOps.st 35 rfl rfl rfl (op_len rfl tu_34 rfl (.own _ _ _) (fun n35 => ?_))) | (refine AOps.st 35 rfl rfl rfl (op_len rfl tu_34 rfl (.nil 0) (fun n35 => ?_))) | (refine AOps.st 35 rfl rfl rfl (op_len_arr rfl tu_34 rfl ?_))
  refine AOps.st 36 rfl rfl rfl (op_move rfl rfl ?_)
  refine AOps.nil ?_
  refine go_code ?_
  refine c_block ?_
  apply c_loopk [1, 2, 3, 4, 5, 8, 9, 10, 11, 12, 13, 14, 15, 16, 17, 18, 19, 20, 21, 22, 23, 24, 25, 26, 27, 28, 29, 30, 31, 32, 33, 34, 36, 37, 38, 39, 40, 41, 42, 43, 44, 45, 46, 47] (σ := Nat × Nat × Nat) (fun zz => match zz with | (j, g, c) => [(36, .val (.int .i64 j))]) (fun zz => match zz with | (j, g, c) => [.loc b (spc true s n (.val (rowv g22 (EW.length + 1 + ps.length) a22)) (.val (rowv g (EW.length + 1 + j) c)) x y), .row 42 1 (rowv g22 (EW.length + 1 + ps.length) a22) (EW ++ [iv hd] ++ ps), .row 4 1 (rowv g (EW.length + 1 + j) c) (EB ++ [bv true] ++ List.replicate j (bv false))]) (fun zz => match zz with | (j, g, c) => j ≤ ps.length) (fun zz => match zz with | (j, g, c) => ps.length - j) ((0, g31, a31))
  · repeat' (first | exact Drops.nil | apply Drops.keep rfl | apply Drops.skip rfl)
  · exact Nat.zero_le _
  · exact (by repeat' (first | exact SLe.nil _ | refine SLe.cons rfl ?_ ?_ | exact Le.refl _ | exact Le.own _ _ _ | exact Le.nil _))
  · exact (MLe.of_eq (by simp [hB, spc, setL, AV.cells, iv, bv]))
  rintro ⟨j, g, c⟩ hI
  try dsimp only [List.cons_append, List.nil_append] at hI ⊢
  refine c_seq ?_
  refine c_region ?_
  refine AOps.st 37 rfl rfl rfl (op_lss rfl rfl rfl ?_); intro c37 h37
  refine AOps.nil ?_
  refine go_code ?_
  refine c_seq ?_
  rcases bool_split h37 with ⟨rfl, g37⟩ | ⟨rfl, g37⟩
  · refine c_cond_f rfl ?_
    refine c_exit ?_
    refine x_code ?_
    refine x_lp ?_
    refine x_here ?_
    refine go_code ?_
    refine c_seq ?_
    obtain rfl : j = ps.length := by omega
    refine c_region ?_
    refine AOps.st 48 rfl rfl rfl (op_move rfl rfl ?_)
    refine AOps.st 6 rfl rfl rfl (op_assign rfl rfl ?_)
    refine AOps.nil ?_
    refine go_code ?_
    refine c_ret ?_
    exact out_tmp rfl rfl (Le.refl _) (MLe.of_eq (by simp)) ⟨rfl, g22, a22, g, c, rfl⟩
  · refine c_cond_t rfl ?_
    refine c_skip ?_
    refine go_code ?_
    refine c_seq ?_
    refine c_block ?_
    refine c_region ?_
    refine AOps.st 38 rfl rfl rfl (op_move rfl rfl ?_)
    refine AOps.st 39 rfl rfl rfl (op_move rfl rfl ?_)
    first | (refine AOps.st 40 rfl rfl rfl (op_nilCheck_m rfl rfl ?_)) | (refine AOps.st 40 rfl rfl rfl (op_nilCheck_c rfl rfl ?_)) | (refine AOps.st 40 rfl rfl rfl (op_nilCheck_f rfl rfl ?_))
    first | (refine AOps.st 41 rfl rfl rfl (op_fieldAddr_m rfl tf_77_1 rfl ?_)) | (refine AOps.st 41 rfl rfl rfl (op_fieldAddr_c rfl tf_77_1 rfl rfl ?_))
    first | (refine AOps.st 42 rfl rfl rfl (op_load_m1 (i := 0) rfl ta_75 rfl rfl rfl ?_)) | (refine AOps.st 42 rfl rfl rfl (op_load_m1 (i := 1) rfl ta_75 rfl rfl rfl ?_)) | (refine AOps.st 42 rfl rfl rfl (op_load_m1 (i := 2) rfl ta_75 rfl rfl rfl ?_)) | (refine AOps.st 42 rfl rfl rfl (op_load_m1 (i := 3) rfl ta_75 rfl rfl rfl ?_)) | (refine AOps.st 42 rfl rfl rfl (op_load_m1 (i := 4) rfl ta_75 rfl rfl rfl ?_)) | (refine AOps.st 42 rfl rfl rfl (op_load_m1 (i := 5) rfl ta_75 rfl rfl rfl ?_)) | (refine AOps.st 42 rfl rfl rfl (op_load_m1 (i := 6) rfl ta_75 rfl rfl rfl ?_)) | (refine AOps.st 42 rfl rfl rfl (op_load_m1 (i := 7) rfl ta_75 rfl rfl rfl ?_)) | (refine AOps.st 42 rfl rfl rfl (op_load_m1 (i := 8) rfl ta_75 rfl rfl rfl ?_)) | (refine AOps.st 42 rfl rfl rfl (op_load_m1 (i := 9) rfl ta_75 rfl rfl rfl ?_)) | (refine AOps.st 42 rfl rfl rfl (op_load_c1 rfl ta_75 rfl rfl ?_))
    refine AOps.st 43 rfl rfl rfl (op_buildSlice (xs := [.const (.bool false)]) el_75 rfl rfl rfl rfl rfl rfl (Nat.le_of_ble_eq_true rfl) ?_)
    first | (refine AOps.st 44 rfl rfl rfl (op_append_rowg (i := 2) el_75 rfl rfl rfl rfl (.seq _ _) (by first | (simp; done) | (simp; omega) | omega) (by first | (simp; done) | (simp; omega) | omega) ?_)) | (refine AOps.st 44 rfl rfl rfl (op_append_rowg (i := 2) el_75 rfl rfl rfl rfl (.own _ _ _) (by first | (simp; done) | (simp; omega) | omega) (by first | (simp; done) | (simp; omega) | omega) ?_)) | (refine AOps.st 44 rfl rfl rfl (op_append_rowg (i := 2) el_75 rfl rfl rfl rfl (.nil _) (by first | (simp; done) | (simp; omega) | omega) (by first | (simp; done) | (simp; omega) | omega) ?_))
    intro g44 a44
    first | (refine AOps.st 45 rfl rfl rfl (op_nilCheck_m rfl rfl ?_)) | (refine AOps.st 45 rfl rfl rfl (op_nilCheck_c rfl rfl ?_)) | (refine AOps.st 45 rfl rfl rfl (op_nilCheck_f rfl rfl ?_))
    first | (refine AOps.st 46 rfl rfl rfl (op_fieldAddr_m rfl tf_77_1 rfl ?_)) | (refine AOps.st 46 rfl rfl rfl (op_fieldAddr_c rfl tf_77_1 rfl rfl ?_))
    first | (refine AOps.st0 rfl rfl (op_store (i := 0) rfl ts_75 rfl rfl rfl rfl rfl (Nat.le_of_ble_eq_true rfl) rfl ?_)) | (refine AOps.st0 rfl rfl (op_store (i := 1) rfl ts_75 rfl rfl rfl rfl rfl (Nat.le_of_ble_eq_true rfl) rfl ?_)) | (refine AOps.st0 rfl rfl (op_store (i := 2) rfl ts_75 rfl rfl rfl rfl rfl (Nat.le_of_ble_eq_true rfl) rfl ?_)) | (refine AOps.st0 rfl rfl (op_store (i := 3) rfl ts_75 rfl rfl rfl rfl rfl (Nat.le_of_ble_eq_true rfl) rfl ?_)) | (refine AOps.st0 rfl rfl (op_store (i := 4) rfl ts_75 rfl rfl rfl rfl rfl (Nat.le_of_ble_eq_true rfl) rfl ?_)) | (refine AOps.st0 rfl rfl (op_store (i := 5) rfl ts_75 rfl rfl rfl rfl rfl (Nat.le_of_ble_eq_true rfl) rfl ?_)) | (refine AOps.st0 rfl rfl (op_store (i := 6) rfl ts_75 rfl rfl rfl rfl rfl (Nat.le_of_ble_eq_true rfl) rfl ?_)) | (refine AOps.st0 rfl rfl (op_store (i := 7) rfl ts_75 rfl rfl rfl rfl rfl (Nat.le_of_ble_eq_true rfl) rfl ?_)) | (refine AOps.st0 rfl rfl (op_store (i := 8) rfl ts_75 rfl rfl rfl rfl rfl (Nat.le_of_ble_eq_true rfl) rfl ?_)) | (refine AOps.st0 rfl rfl (op_store (i := 9) rfl ts_75 rfl rfl rfl rfl rfl (Nat.le_of_ble_eq_true rfl) rfl ?_))
    refine AOps.nil ?_
    refine go_blk ?_
    refine go_code ?_
    refine c_region ?_
    first | (refine AOps.st 47 rfl rfl rfl (op_add rfl rfl rfl (IntWalk.i64_in _ (by omega)) ?_)) | (refine AOps.st 47 rfl rfl rfl (op_add rfl rfl rfl rfl ?_))
    refine AOps.st 36 rfl rfl rfl (op_move rfl rfl ?_)
    refine AOps.nil ?_
    refine go_lp ?_
    exact ⟨(j + 1, g44, a44), by show j + 1 ≤ _; omega, by simp; omega, (by repeat' (first | exact SLe.nil _ | refine SLe.cons rfl ?_ ?_ | exact Le.refl _ | exact Le.own _ _ _ | exact Le.nil _)), (MLe.of_eq (by simp [hB, spc, setL, AV.cells, List.replicate_succ', Nat.add_assoc, bv]; try omega))⟩
theorem heap_push (now : Bool) (b : Nat) (sz : Int) (H : List HO) (o : HO) (gw cw gb cb : Nat) (x y : AV) : HeapAt b sz (H ++ [o]) [.loc b (spc now (.val (.int .i64 sz)) (nowV now) (.val (rowv gw (used H + 1 + 1 + (o.parts.map iv).length) cw)) (.val (rowv gb (used H + 1 + 1 + (o.parts.map iv).length) cb)) x y), .row 42 1 (rowv gw (used H + 1 + 1 + (o.parts.map iv).length) cw) ((hw H).map iv ++ iv o.head :: o.parts.map iv), .row 4 1 (rowv gb (used H + 1 + 1 + (o.parts.map iv).length) cb) ((hb H).map bv ++ bv true :: List.replicate (o.parts.map iv).length (bv false))] := by
  refine ⟨now, gw, cw, gb, cb, x, y, ?_⟩
  have e : used H + 1 + 1 + (o.parts.map iv).length = used (H ++ [o]) + 1 := by rw [used_app, used_one]; simp; omega
  have e1 : (hw (H ++ [o])).map iv = (hw H).map iv ++ iv o.head :: o.parts.map iv := by rw [hw_app, HO.ws]; simp
  have e2 : (hb (H ++ [o])).map bv = (hb H).map bv ++ bv true :: List.replicate (o.parts.map iv).length (bv false) := by rw [hb_app, HO.bs]; simp
  rw [e, e1, e2]
/-- may there be such an object? -/
def Fits31 (sz : Int) (H : List HO) (kd tg : Int) (ps : List Int) : Prop := headOk kd tg ps.length = true ∧ 0 < ps.length ∧ (used H : Int) + ps.length + 1 ≤ sz
theorem okE_iff (b : Bool) : okE b ≠ 0 ↔ ¬ b = true := by cases b <;> simp [okE]
set_option maxHeartbeats 4000000 in
set_option maxRecDepth 100000 in
theorem Alloc_c (b : Nat) (sz : Int) (H : List HO) (M : Mem) (hM : HeapAt b sz H M) (h : 0 < sz) (hs : sz ≤ 16777216) (hu : used H ≤ 16777216) (kd tg : Int) (ps : List Int) (hk1 : -9223372036854775808 ≤ kd) (hk2 : kd ≤ 9223372036854775807) (ht1 : -9223372036854775808 ≤ tg) (ht2 : tg ≤ 9223372036854775807) (hl : ps.length ≤ 100000000) :
    ACall Try.prog 22 [.ptr b 0, .val (.int .i64 kd), .val (.int .i64 tg), .seq 1 (ps.map iv)] M (fun v M' => (Fits31 sz H kd tg ps ∧ v = .tup [.val (.int .u64 (2 * (used H + 1 : Int))), .val (.bool true)] ∧ HeapAt b sz (H ++ [⟨kd, tg, ps⟩]) M') ∨ (¬ Fits31 sz H kd tg ps ∧ v = .tup [.val (.int .u64 0), .val (.bool false)] ∧ M' = M)) := by
  have hR := Room_c b sz (ps.length + 1) H M hM h hs hu
  have hHd := Head_p kd tg ps.length hk1 hk2 ht1 ht2 (by omega) (by omega)
  have hlW : ((hw H).map iv).length = used H + 1 := by simpa using hw_len H
  have hlB : ((hb H).map bv).length = used H + 1 := by simpa using hb_len H
  have hlp : (ps.map iv).length = ps.length := by simp
  have hHd : PCall Try.prog 47 [.val (.int .i64 kd), .val (.int .i64 tg), .val (.int .i64 (ps.map iv).length)] (.tup [.val (.int .u64 (headW kd tg ps.length)), .val (.int .i64 (okE (headOk kd tg ps.length)))]) := by rw [hlp]; exact hHd
  have hR : KBCall Try.prog 25 [.ptr b 0, .val (.int .i64 ((ps.map iv).length + 1))] M (0 ≤ (ps.length : Int) + 1 ∧ (ps.length : Int) + 1 + used H ≤ sz) := by rw [hlp]; exact hR
  have hokE := okE_iff (headOk kd tg ps.length)
  unfold Fits31
  have hpush := fun now gw cw gb cb x y => heap_push now b sz H ⟨kd, tg, ps⟩ gw cw gb cb x y
  simp only [HO.head] at hpush
  have hPtr := Ptr_p (used H + 1 : Nat) (by omega) (by omega)
  have hpw : used H ≤ 16777216 → ptrW (used H + 1 : Nat) = 2 * (used H + 1 : Int) := fun q => by unfold ptrW ptrOk; rw [if_pos (by simp; omega)]; omega
  rw [hpw hu] at hPtr
  generalize headW kd tg ps.length = hd at *
  generalize headOk kd tg ps.length = ok at *
  generalize okE ok = oe at *
  obtain ⟨now, gw, cw, gb, cb, x, y, rfl⟩ := hM
  have hpf := fun s n => put_false b s n x y gw cw gb cb (used H + 1) _ _ (ps.map iv) hd hlW hlB (by omega) (by omega)
  have hpt := fun s n => put_true b s n x y gw cw gb cb (used H + 1) _ _ (ps.map iv) hd hlW hlB (by omega) (by omega)
  cases now
  · simp only [spc] at hpf hpt hR hpush ⊢
    refine ACall.enter Try.func22 rfl (by kernel_rfl) rfl (Nat.le_of_ble_eq_true rfl) ?_
    refine c_start ?_
    refine c_seq ?_
    refine c_region ?_
    refine AOps.st 8 rfl rfl rfl (op_assign rfl rfl ?_)
    refine AOps.st 9 rfl rfl rfl (op_assign rfl rfl ?_)
    refine AOps.nil ?_
    refine go_code ?_
    refine c_seq ?_
    refine c_region ?_
    refine AOps.st 15 rfl rfl rfl (op_move rfl rfl ?_)
    refine AOps.st 16 rfl rfl rfl (op_move rfl rfl ?_)
    refine AOps.st 17 rfl rfl rfl (op_move rfl rfl ?_)
    first | (refine AOps.st 18 rfl rfl rfl (op_len rfl tu_34 rfl (.seq _ _) (fun n18 => ?_))) | (refine AOps.st 18 rfl rfl rfl (op_len rfl tu_34 rfl (.own _ _ _) (fun n18 => ?_))) | (refine AOps.st 18 rfl rfl rfl (op_len rfl tu_34 rfl (.nil 0) (fun n18 => ?_))) | (refine AOps.st 18 rfl rfl rfl (op_len_arr rfl tu_34 rfl ?_))
    refine AOps.st 19 rfl rfl rfl (op_callp (xs := [.tmp 15, .tmp 16, .tmp 18]) rfl rfl (hHd) (by first | exact Les.refl _ | (repeat' (first | exact Les.refl _ | refine Les.cons ?_ ?_ | exact Le.refl _ | exact Le.own _ _ _ | exact Le.nil _ | refine Le.agg ?_))) ?_)
    refine AOps.st 14 rfl rfl rfl (op_move rfl rfl ?_)
    refine AOps.st 20 rfl rfl rfl (op_extract rfl rfl rfl ?_)
    refine AOps.st 21 rfl rfl rfl (op_extract rfl rfl rfl ?_)
    refine AOps.st 10 rfl rfl rfl (op_assign rfl rfl ?_)
    refine AOps.st 11 rfl rfl rfl (op_assign rfl rfl ?_)
    refine AOps.nil ?_
    refine go_code ?_
    refine c_seq ?_
    refine c_seq ?_
    refine c_bool 36 (¬ (ok = true ∧ 0 < ps.length ∧ (used H : Int) + ps.length + 1 ≤ sz)) ?_ _ _ rfl ?_
    · skip
      refine AOps.st 22 rfl rfl rfl (op_move rfl rfl ?_)
      refine AOps.st 23 rfl rfl rfl (op_neq rfl rfl rfl ?_); intro c23 h23
      refine AOps.st 24 rfl rfl rfl (op_move rfl rfl ?_)
      rcases bool_split h23 with ⟨rfl, g23⟩ | ⟨rfl, g23⟩
      · skip
        refine AOps.gt 25 rfl rfl rfl rfl rfl (op_move rfl rfl ?_)
        first | (refine AOps.gt 26 rfl rfl rfl rfl rfl (op_len rfl tu_34 rfl (.seq _ _) (fun n26 => ?_))) | (refine AOps.gt 26 rfl rfl rfl rfl rfl (op_len rfl tu_34 rfl (.own _ _ _) (fun n26 => ?_))) | (refine AOps.gt 26 rfl rfl rfl rfl rfl (op_len rfl tu_34 rfl (.nil 0) (fun n26 => ?_))) | (refine AOps.gt 26 rfl rfl rfl rfl rfl (op_len_arr rfl tu_34 rfl ?_))
        refine AOps.gt 27 rfl rfl rfl rfl rfl (op_eql rfl rfl rfl ?_); intro c27 h27
        refine AOps.st 28 rfl rfl rfl (op_pick rfl rfl rfl ?_)
        refine AOps.st 29 rfl rfl rfl (op_move rfl rfl ?_)
        rcases bool_split h27 with ⟨rfl, g27⟩ | ⟨rfl, g27⟩
        · skip
          refine AOps.gt 30 rfl rfl rfl rfl rfl (op_move rfl rfl ?_)
          refine AOps.gt 31 rfl rfl rfl rfl rfl (op_move rfl rfl ?_)
          first | (refine AOps.gt 32 rfl rfl rfl rfl rfl (op_len rfl tu_34 rfl (.seq _ _) (fun n32 => ?_))) | (refine AOps.gt 32 rfl rfl rfl rfl rfl (op_len rfl tu_34 rfl (.own _ _ _) (fun n32 => ?_))) | (refine AOps.gt 32 rfl rfl rfl rfl rfl (op_len rfl tu_34 rfl (.nil 0) (fun n32 => ?_))) | (refine AOps.gt 32 rfl rfl rfl rfl rfl (op_len_arr rfl tu_34 rfl ?_))
          first | (refine AOps.gt 33 rfl rfl rfl rfl rfl (op_add rfl rfl rfl (IntWalk.i64_in _ (by omega)) ?_)) | (refine AOps.gt 33 rfl rfl rfl rfl rfl (op_add rfl rfl rfl rfl ?_))
          refine AOps.gt 34 rfl rfl rfl rfl rfl (op_callkb (xs := [.tmp 30, .tmp 33]) [0,0,0] rfl rfl rfl (hR) (by first | exact Les.refl _ | (repeat' (first | exact Les.refl _ | refine Les.cons ?_ ?_ | exact Le.refl _ | exact Le.own _ _ _ | exact Le.nil _ | refine Le.agg ?_))) ?_); intro c34 h34
          refine AOps.gt 35 rfl rfl rfl rfl rfl (op_notc rfl rfl ?_); intro c35 h35
          try replace h35 := nott h35 h34
          refine AOps.st 36 rfl rfl rfl (op_pick rfl rfl rfl ?_)
          refine AOps.nil ?_
          refine BoolQ.mk rfl ?_ (by repeat' (first | exact SLe.wo _ _ | exact SLe.refl _ | refine SLe.fresh rfl ?_)) (by first | exact MLe.none _ | exact MLe.refl _ | (repeat' (first | exact MLe.nil | exact MLe.refl _ | refine MLe.cons _ ?_ | refine MLe.drop _ ?_)))
          first | (simp_all; done) | grind
        · skip
          refine AOps.gf 30 rfl rfl rfl rfl rfl ?_
          refine AOps.gf 31 rfl rfl rfl rfl rfl ?_
          refine AOps.gf 32 rfl rfl rfl rfl rfl ?_
          refine AOps.gf 33 rfl rfl rfl rfl rfl ?_
          refine AOps.gf 34 rfl rfl rfl rfl rfl ?_
          refine AOps.gf 35 rfl rfl rfl rfl rfl ?_
          refine AOps.st 36 rfl rfl rfl (op_pick rfl rfl rfl ?_)
          refine AOps.nil ?_
          refine BoolQ.mk rfl ?_ (by repeat' (first | exact SLe.wo _ _ | exact SLe.refl _ | refine SLe.fresh rfl ?_)) (by first | exact MLe.none _ | exact MLe.refl _ | (repeat' (first | exact MLe.nil | exact MLe.refl _ | refine MLe.cons _ ?_ | refine MLe.drop _ ?_)))
          first | (simp_all; done) | grind
      · skip
        refine AOps.gf 25 rfl rfl rfl rfl rfl ?_
        refine AOps.gf 26 rfl rfl rfl rfl rfl ?_
        refine AOps.gf 27 rfl rfl rfl rfl rfl ?_
        refine AOps.st 28 rfl rfl rfl (op_pick rfl rfl rfl ?_)
        refine AOps.st 29 rfl rfl rfl (op_move rfl rfl ?_)
        refine AOps.gf 30 rfl rfl rfl rfl rfl ?_
        refine AOps.gf 31 rfl rfl rfl rfl rfl ?_
        refine AOps.gf 32 rfl rfl rfl rfl rfl ?_
        refine AOps.gf 33 rfl rfl rfl rfl rfl ?_
        refine AOps.gf 34 rfl rfl rfl rfl rfl ?_
        refine AOps.gf 35 rfl rfl rfl rfl rfl ?_
        refine AOps.st 36 rfl rfl rfl (op_pick rfl rfl rfl ?_)
        refine AOps.nil ?_
        refine BoolQ.mk rfl ?_ (by repeat' (first | exact SLe.wo _ _ | exact SLe.refl _ | refine SLe.fresh rfl ?_)) (by first | exact MLe.none _ | exact MLe.refl _ | (repeat' (first | exact MLe.nil | exact MLe.refl _ | refine MLe.cons _ ?_ | refine MLe.drop _ ?_)))
        first | (simp_all; done) | grind
    intro c36 h36
    refine go_code ?_
    rcases bool_split h36 with ⟨rfl, g36⟩ | ⟨rfl, g36⟩
    · refine c_cond_f rfl ?_
      refine c_skip ?_
      refine go_code ?_
      refine c_seq ?_
      refine c_drawnE [0, 1, 2, 3, 4, 5, 6, 7, 8, 9, 10, 11, 12, 13, 14, 15, 16] [10] [[], [], [1], [1, 2], [1, 2, 3], [0], [0, 5], [0, 1, 2, 3, 4, 5, 6], [], [], [0, 1, 2, 3, 4, 5, 6, 7, 8, 9], [0, 1, 2, 3, 4, 5, 6, 7, 8, 9, 10], [0, 1, 2, 3, 4, 5, 6, 7, 8, 9, 10, 11], [0, 1, 2, 3, 4, 5, 6, 7, 8, 9, 10, 11, 12], [0, 1, 2, 3, 4, 5, 6, 7, 8, 9, 10, 11, 12], [0, 1, 2, 3, 4, 5, 6, 7, 8, 9, 10, 11, 12, 13], [0, 1, 2, 3, 4, 5, 6, 7, 8, 9, 10, 11, 12, 13, 14, 15]] tmix rfl ?_
      refine EOps.d 38 (none) (i := 0) rfl rfl rfl rfl rfl (op_move rfl rfl ⟨rfl, rfl⟩) ?_
      refine EOps.d 39 (none) (i := 1) rfl rfl rfl rfl rfl (op_move rfl rfl ⟨rfl, rfl⟩) ?_
      first | (refine EOps.d 40 (none) (i := 2) rfl rfl rfl rfl rfl (op_nilCheck_m rfl rfl ⟨rfl, rfl⟩) ?_) | (refine EOps.d 40 (none) (i := 2) rfl rfl rfl rfl rfl (op_nilCheck_c rfl rfl ⟨rfl, rfl⟩) ?_) | (refine EOps.d 40 (none) (i := 2) rfl rfl rfl rfl rfl (op_nilCheck_f rfl rfl ⟨rfl, rfl⟩) ?_)
      first | (refine EOps.d 41 (none) (i := 3) rfl rfl rfl rfl rfl (op_fieldAddr_m rfl tf_81_2 rfl ⟨rfl, rfl⟩) ?_) | (refine EOps.d 41 (none) (i := 3) rfl rfl rfl rfl rfl (op_fieldAddr_c rfl tf_81_2 rfl rfl ⟨rfl, rfl⟩) ?_)
      first | (refine EOps.d 42 (some 0) (i := 4) rfl rfl rfl rfl rfl (op_load_m1 (i := 0) rfl ta_3 rfl rfl rfl ⟨rfl, rfl⟩) ?_) | (refine EOps.d 42 (some 1) (i := 4) rfl rfl rfl rfl rfl (op_load_m1 (i := 0) rfl ta_3 rfl rfl rfl ⟨rfl, rfl⟩) ?_) | (refine EOps.d 42 (some 2) (i := 4) rfl rfl rfl rfl rfl (op_load_m1 (i := 0) rfl ta_3 rfl rfl rfl ⟨rfl, rfl⟩) ?_) | (refine EOps.d 42 (some 3) (i := 4) rfl rfl rfl rfl rfl (op_load_m1 (i := 0) rfl ta_3 rfl rfl rfl ⟨rfl, rfl⟩) ?_) | (refine EOps.d 42 (some 4) (i := 4) rfl rfl rfl rfl rfl (op_load_m1 (i := 0) rfl ta_3 rfl rfl rfl ⟨rfl, rfl⟩) ?_) | (refine EOps.d 42 (some 5) (i := 4) rfl rfl rfl rfl rfl (op_load_m1 (i := 0) rfl ta_3 rfl rfl rfl ⟨rfl, rfl⟩) ?_) | (refine EOps.d 42 (some 6) (i := 4) rfl rfl rfl rfl rfl (op_load_m1 (i := 0) rfl ta_3 rfl rfl rfl ⟨rfl, rfl⟩) ?_) | (refine EOps.d 42 (some 7) (i := 4) rfl rfl rfl rfl rfl (op_load_m1 (i := 0) rfl ta_3 rfl rfl rfl ⟨rfl, rfl⟩) ?_) | (refine EOps.d 42 (some 8) (i := 4) rfl rfl rfl rfl rfl (op_load_m1 (i := 0) rfl ta_3 rfl rfl rfl ⟨rfl, rfl⟩) ?_) | (refine EOps.d 42 (some 9) (i := 4) rfl rfl rfl rfl rfl (op_load_m1 (i := 0) rfl ta_3 rfl rfl rfl ⟨rfl, rfl⟩) ?_) | (refine EOps.d 42 (none) (i := 4) rfl rfl rfl rfl rfl (op_load_c1 rfl ta_3 rfl rfl ⟨rfl, rfl⟩) ?_)
      first | (refine EOps.d 43 (none) (i := 5) rfl rfl rfl rfl rfl (op_nilCheck_m rfl rfl ⟨rfl, rfl⟩) ?_) | (refine EOps.d 43 (none) (i := 5) rfl rfl rfl rfl rfl (op_nilCheck_c rfl rfl ⟨rfl, rfl⟩) ?_) | (refine EOps.d 43 (none) (i := 5) rfl rfl rfl rfl rfl (op_nilCheck_f rfl rfl ⟨rfl, rfl⟩) ?_)
      first | (refine EOps.d 44 (none) (i := 6) rfl rfl rfl rfl rfl (op_fieldAddr_m rfl tf_81_1 rfl ⟨rfl, rfl⟩) ?_) | (refine EOps.d 44 (none) (i := 6) rfl rfl rfl rfl rfl (op_fieldAddr_c rfl tf_81_1 rfl rfl ⟨rfl, rfl⟩) ?_)
      first | (refine EOps.d 45 (none) (i := 7) rfl rfl rfl rfl rfl (op_index_arrm (k := 0) rfl tu_79 ts_77 rfl rfl rfl (by decide) ⟨rfl, rfl⟩) ?_) | (refine EOps.d 45 (none) (i := 7) rfl rfl rfl rfl rfl (op_index_arrm (k := 1) rfl tu_79 ts_77 rfl rfl rfl (by decide) ⟨rfl, rfl⟩) ?_)
      refine EOps.d 46 (none) (i := 8) rfl rfl rfl rfl rfl (op_move rfl rfl ⟨rfl, rfl⟩) ?_
      refine EOps.d 47 (none) (i := 9) rfl rfl rfl rfl rfl (op_move rfl rfl ⟨rfl, rfl⟩) ?_
      refine EOps.wh (i := 10) rfl rfl rfl rfl (op_callat [0,0,0] (xs := [.tmp 45, .tmp 46, .tmp 47])  rfl rfl rfl (hpf _ _) (by first | exact Les.refl _ | (repeat' (first | exact Les.refl _ | refine Les.cons ?_ ?_ | exact Le.refl _ | exact Le.own _ _ _ | exact Le.nil _ | refine Le.agg ?_))) ?_)
      rintro v1 M1 ⟨rfl, g1, c1, g2, c2, rfl⟩
      refine EOps.d 49 (none) (i := 11) rfl rfl rfl rfl rfl (op_callp (xs := [.tmp 48]) rfl rfl (hPtr) (by first | exact Les.refl _ | (repeat' (first | exact Les.refl _ | refine Les.cons ?_ ?_ | exact Le.refl _ | exact Le.own _ _ _ | exact Le.nil _ | refine Le.agg ?_))) ⟨rfl, rfl⟩) ?_
      refine EOps.d 37 (none) (i := 12) rfl rfl rfl rfl rfl (op_move rfl rfl ⟨rfl, rfl⟩) ?_
      refine EOps.d 50 (none) (i := 13) rfl rfl rfl rfl rfl (op_extract rfl rfl rfl ⟨rfl, rfl⟩) ?_
      refine EOps.d 51 (none) (i := 14) rfl rfl rfl rfl rfl (op_extract rfl rfl rfl ⟨rfl, rfl⟩) ?_
      refine EOps.d 12 (none) (i := 15) rfl rfl rfl rfl rfl (op_assign rfl rfl ⟨rfl, rfl⟩) ?_
      refine EOps.d 13 (none) (i := 16) rfl rfl rfl rfl rfl (op_assign rfl rfl ⟨rfl, rfl⟩) ?_
      show AGo _ _ _ _ _ _ _
      refine go_code ?_
      refine c_seq ?_
      refine c_region ?_
      refine AOps.st 52 rfl rfl rfl (op_move rfl rfl ?_)
      refine AOps.st 8 rfl rfl rfl (op_assign rfl rfl ?_)
      refine AOps.st 9 rfl rfl rfl (op_assign rfl rfl ?_)
      refine AOps.nil ?_
      refine go_code ?_
      refine c_ret ?_
      exact out_tt rfl rfl rfl (Le.refl _) (by first | exact MLe.none _ | exact MLe.refl _ | (repeat' (first | exact MLe.nil | exact MLe.refl _ | refine MLe.cons _ ?_ | refine MLe.drop _ ?_))) (.inl ⟨Classical.not_not.1 g36, rfl, hpush false g1 c1 g2 c2 _ _⟩)
    · refine c_cond_t rfl ?_
      refine c_seq ?_
      refine c_region ?_
      refine AOps.st 8 rfl rfl rfl (op_assign rfl rfl ?_)
      refine AOps.st 9 rfl rfl rfl (op_assign rfl rfl ?_)
      refine AOps.nil ?_
      refine go_code ?_
      refine c_ret ?_
      exact out_tt rfl rfl rfl (Le.refl _) (by first | exact MLe.none _ | exact MLe.refl _ | (repeat' (first | exact MLe.nil | exact MLe.refl _ | refine MLe.cons _ ?_ | refine MLe.drop _ ?_))) (.inr ⟨g36, rfl, rfl⟩)
  · simp only [spc] at hpf hpt hR hpush ⊢
    refine ACall.enter Try.func22 rfl (by kernel_rfl) rfl (Nat.le_of_ble_eq_true rfl) ?_
    refine c_start ?_
    refine c_seq ?_
    refine c_region ?_
    refine AOps.st 8 rfl rfl rfl (op_assign rfl rfl ?_)
    refine AOps.st 9 rfl rfl rfl (op_assign rfl rfl ?_)
    refine AOps.nil ?_
    refine go_code ?_
    refine c_seq ?_
    refine c_region ?_
    refine AOps.st 15 rfl rfl rfl (op_move rfl rfl ?_)
    refine AOps.st 16 rfl rfl rfl (op_move rfl rfl ?_)
    refine AOps.st 17 rfl rfl rfl (op_move rfl rfl ?_)
    first | (refine AOps.st 18 rfl rfl rfl (op_len rfl tu_34 rfl (.seq _ _) (fun n18 => ?_))) | (refine AOps.st 18 rfl rfl rfl (op_len rfl tu_34 rfl (.own _ _ _) (fun n18 => ?_))) | (refine AOps.st 18 rfl rfl rfl (op_len rfl tu_34 rfl (.nil 0) (fun n18 => ?_))) | (refine AOps.st 18 rfl rfl rfl (op_len_arr rfl tu_34 rfl ?_))
    refine AOps.st 19 rfl rfl rfl (op_callp (xs := [.tmp 15, .tmp 16, .tmp 18]) rfl rfl (hHd) (by first | exact Les.refl _ | (repeat' (first | exact Les.refl _ | refine Les.cons ?_ ?_ | exact Le.refl _ | exact Le.own _ _ _ | exact Le.nil _ | refine Le.agg ?_))) ?_)
    refine AOps.st 14 rfl rfl rfl (op_move rfl rfl ?_)
    refine AOps.st 20 rfl rfl rfl (op_extract rfl rfl rfl ?_)
    refine AOps.st 21 rfl rfl rfl (op_extract rfl rfl rfl ?_)
    refine AOps.st 10 rfl rfl rfl (op_assign rfl rfl ?_)
    refine AOps.st 11 rfl rfl rfl (op_assign rfl rfl ?_)
    refine AOps.nil ?_
    refine go_code ?_
    refine c_seq ?_
    refine c_seq ?_
    refine c_bool 36 (¬ (ok = true ∧ 0 < ps.length ∧ (used H : Int) + ps.length + 1 ≤ sz)) ?_ _ _ rfl ?_
    · skip
      refine AOps.st 22 rfl rfl rfl (op_move rfl rfl ?_)
      refine AOps.st 23 rfl rfl rfl (op_neq rfl rfl rfl ?_); intro c23 h23
      refine AOps.st 24 rfl rfl rfl (op_move rfl rfl ?_)
      rcases bool_split h23 with ⟨rfl, g23⟩ | ⟨rfl, g23⟩
      · skip
        refine AOps.gt 25 rfl rfl rfl rfl rfl (op_move rfl rfl ?_)
        first | (refine AOps.gt 26 rfl rfl rfl rfl rfl (op_len rfl tu_34 rfl (.seq _ _) (fun n26 => ?_))) | (refine AOps.gt 26 rfl rfl rfl rfl rfl (op_len rfl tu_34 rfl (.own _ _ _) (fun n26 => ?_))) | (refine AOps.gt 26 rfl rfl rfl rfl rfl (op_len rfl tu_34 rfl (.nil 0) (fun n26 => ?_))) | (refine AOps.gt 26 rfl rfl rfl rfl rfl (op_len_arr rfl tu_34 rfl ?_))
        refine AOps.gt 27 rfl rfl rfl rfl rfl (op_eql rfl rfl rfl ?_); intro c27 h27
        refine AOps.st 28 rfl rfl rfl (op_pick rfl rfl rfl ?_)
        refine AOps.st 29 rfl rfl rfl (op_move rfl rfl ?_)
        rcases bool_split h27 with ⟨rfl, g27⟩ | ⟨rfl, g27⟩
        · skip
          refine AOps.gt 30 rfl rfl rfl rfl rfl (op_move rfl rfl ?_)
          refine AOps.gt 31 rfl rfl rfl rfl rfl (op_move rfl rfl ?_)
          first | (refine AOps.gt 32 rfl rfl rfl rfl rfl (op_len rfl tu_34 rfl (.seq _ _) (fun n32 => ?_))) | (refine AOps.gt 32 rfl rfl rfl rfl rfl (op_len rfl tu_34 rfl (.own _ _ _) (fun n32 => ?_))) | (refine AOps.gt 32 rfl rfl rfl rfl rfl (op_len rfl tu_34 rfl (.nil 0) (fun n32 => ?_))) | (refine AOps.gt 32 rfl rfl rfl rfl rfl (op_len_arr rfl tu_34 rfl ?_))
          first | (refine AOps.gt 33 rfl rfl rfl rfl rfl (op_add rfl rfl rfl (IntWalk.i64_in _ (by omega)) ?_)) | (refine AOps.gt 33 rfl rfl rfl rfl rfl (op_add rfl rfl rfl rfl ?_))
          refine AOps.gt 34 rfl rfl rfl rfl rfl (op_callkb (xs := [.tmp 30, .tmp 33]) [0,0,0] rfl rfl rfl (hR) (by first | exact Les.refl _ | (repeat' (first | exact Les.refl _ | refine Les.cons ?_ ?_ | exact Le.refl _ | exact Le.own _ _ _ | exact Le.nil _ | refine Le.agg ?_))) ?_); intro c34 h34
          refine AOps.gt 35 rfl rfl rfl rfl rfl (op_notc rfl rfl ?_); intro c35 h35
          try replace h35 := nott h35 h34
          refine AOps.st 36 rfl rfl rfl (op_pick rfl rfl rfl ?_)
          refine AOps.nil ?_
          refine BoolQ.mk rfl ?_ (by repeat' (first | exact SLe.wo _ _ | exact SLe.refl _ | refine SLe.fresh rfl ?_)) (by first | exact MLe.none _ | exact MLe.refl _ | (repeat' (first | exact MLe.nil | exact MLe.refl _ | refine MLe.cons _ ?_ | refine MLe.drop _ ?_)))
          first | (simp_all; done) | grind
        · skip
          refine AOps.gf 30 rfl rfl rfl rfl rfl ?_
          refine AOps.gf 31 rfl rfl rfl rfl rfl ?_
          refine AOps.gf 32 rfl rfl rfl rfl rfl ?_
          refine AOps.gf 33 rfl rfl rfl rfl rfl ?_
          refine AOps.gf 34 rfl rfl rfl rfl rfl ?_
          refine AOps.gf 35 rfl rfl rfl rfl rfl ?_
          refine AOps.st 36 rfl rfl rfl (op_pick rfl rfl rfl ?_)
          refine AOps.nil ?_
          refine BoolQ.mk rfl ?_ (by repeat' (first | exact SLe.wo _ _ | exact SLe.refl _ | refine SLe.fresh rfl ?_)) (by first | exact MLe.none _ | exact MLe.refl _ | (repeat' (first | exact MLe.nil | exact MLe.refl _ | refine MLe.cons _ ?_ | refine MLe.drop _ ?_)))
          first | (simp_all; done) | grind
      · skip
        refine AOps.gf 25 rfl rfl rfl rfl rfl ?_
        refine AOps.gf 26 rfl rfl rfl rfl rfl ?_
        refine AOps.gf 27 rfl rfl rfl rfl rfl ?_
        refine AOps.st 28 rfl rfl rfl (op_pick rfl rfl rfl ?_)
        refine AOps.st 29 rfl rfl rfl (op_move rfl rfl ?_)
        refine AOps.gf 30 rfl rfl rfl rfl rfl ?_
        refine AOps.gf 31 rfl rfl rfl rfl rfl ?_
        refine AOps.gf 32 rfl rfl rfl rfl rfl ?_
        refine AOps.gf 33 rfl rfl rfl rfl rfl ?_
        refine AOps.gf 34 rfl rfl rfl rfl rfl ?_
        refine AOps.gf 35 rfl rfl rfl rfl rfl ?_
        refine AOps.st 36 rfl rfl rfl (op_pick rfl rfl rfl ?_)
        refine AOps.nil ?_
        refine BoolQ.mk rfl ?_ (by repeat' (first | exact SLe.wo _ _ | exact SLe.refl _ | refine SLe.fresh rfl ?_)) (by first | exact MLe.none _ | exact MLe.refl _ | (repeat' (first | exact MLe.nil | exact MLe.refl _ | refine MLe.cons _ ?_ | refine MLe.drop _ ?_)))
        first | (simp_all; done) | grind
    intro c36 h36
    refine go_code ?_
    rcases bool_split h36 with ⟨rfl, g36⟩ | ⟨rfl, g36⟩
    · refine c_cond_f rfl ?_
      refine c_skip ?_
      refine go_code ?_
      refine c_seq ?_
      refine c_drawnE [0, 1, 2, 3, 4, 5, 6, 7, 8, 9, 10, 11, 12, 13, 14, 15, 16] [10] [[], [], [1], [1, 2], [1, 2, 3], [0], [0, 5], [0, 1, 2, 3, 4, 5, 6], [], [], [0, 1, 2, 3, 4, 5, 6, 7, 8, 9], [0, 1, 2, 3, 4, 5, 6, 7, 8, 9, 10], [0, 1, 2, 3, 4, 5, 6, 7, 8, 9, 10, 11], [0, 1, 2, 3, 4, 5, 6, 7, 8, 9, 10, 11, 12], [0, 1, 2, 3, 4, 5, 6, 7, 8, 9, 10, 11, 12], [0, 1, 2, 3, 4, 5, 6, 7, 8, 9, 10, 11, 12, 13], [0, 1, 2, 3, 4, 5, 6, 7, 8, 9, 10, 11, 12, 13, 14, 15]] tmix rfl ?_
      refine EOps.d 38 (none) (i := 0) rfl rfl rfl rfl rfl (op_move rfl rfl ⟨rfl, rfl⟩) ?_
      refine EOps.d 39 (none) (i := 1) rfl rfl rfl rfl rfl (op_move rfl rfl ⟨rfl, rfl⟩) ?_
      first | (refine EOps.d 40 (none) (i := 2) rfl rfl rfl rfl rfl (op_nilCheck_m rfl rfl ⟨rfl, rfl⟩) ?_) | (refine EOps.d 40 (none) (i := 2) rfl rfl rfl rfl rfl (op_nilCheck_c rfl rfl ⟨rfl, rfl⟩) ?_) | (refine EOps.d 40 (none) (i := 2) rfl rfl rfl rfl rfl (op_nilCheck_f rfl rfl ⟨rfl, rfl⟩) ?_)
      first | (refine EOps.d 41 (none) (i := 3) rfl rfl rfl rfl rfl (op_fieldAddr_m rfl tf_81_2 rfl ⟨rfl, rfl⟩) ?_) | (refine EOps.d 41 (none) (i := 3) rfl rfl rfl rfl rfl (op_fieldAddr_c rfl tf_81_2 rfl rfl ⟨rfl, rfl⟩) ?_)
      first | (refine EOps.d 42 (some 0) (i := 4) rfl rfl rfl rfl rfl (op_load_m1 (i := 0) rfl ta_3 rfl rfl rfl ⟨rfl, rfl⟩) ?_) | (refine EOps.d 42 (some 1) (i := 4) rfl rfl rfl rfl rfl (op_load_m1 (i := 0) rfl ta_3 rfl rfl rfl ⟨rfl, rfl⟩) ?_) | (refine EOps.d 42 (some 2) (i := 4) rfl rfl rfl rfl rfl (op_load_m1 (i := 0) rfl ta_3 rfl rfl rfl ⟨rfl, rfl⟩) ?_) | (refine EOps.d 42 (some 3) (i := 4) rfl rfl rfl rfl rfl (op_load_m1 (i := 0) rfl ta_3 rfl rfl rfl ⟨rfl, rfl⟩) ?_) | (refine EOps.d 42 (some 4) (i := 4) rfl rfl rfl rfl rfl (op_load_m1 (i := 0) rfl ta_3 rfl rfl rfl ⟨rfl, rfl⟩) ?_) | (refine EOps.d 42 (some 5) (i := 4) rfl rfl rfl rfl rfl (op_load_m1 (i := 0) rfl ta_3 rfl rfl rfl ⟨rfl, rfl⟩) ?_) | (refine EOps.d 42 (some 6) (i := 4) rfl rfl rfl rfl rfl (op_load_m1 (i := 0) rfl ta_3 rfl rfl rfl ⟨rfl, rfl⟩) ?_) | (refine EOps.d 42 (some 7) (i := 4) rfl rfl rfl rfl rfl (op_load_m1 (i := 0) rfl ta_3 rfl rfl rfl ⟨rfl, rfl⟩) ?_) | (refine EOps.d 42 (some 8) (i := 4) rfl rfl rfl rfl rfl (op_load_m1 (i := 0) rfl ta_3 rfl rfl rfl ⟨rfl, rfl⟩) ?_) | (refine EOps.d 42 (some 9) (i := 4) rfl rfl rfl rfl rfl (op_load_m1 (i := 0) rfl ta_3 rfl rfl rfl ⟨rfl, rfl⟩) ?_) | (refine EOps.d 42 (none) (i := 4) rfl rfl rfl rfl rfl (op_load_c1 rfl ta_3 rfl rfl ⟨rfl, rfl⟩) ?_)
      first | (refine EOps.d 43 (none) (i := 5) rfl rfl rfl rfl rfl (op_nilCheck_m rfl rfl ⟨rfl, rfl⟩) ?_) | (refine EOps.d 43 (none) (i := 5) rfl rfl rfl rfl rfl (op_nilCheck_c rfl rfl ⟨rfl, rfl⟩) ?_) | (refine EOps.d 43 (none) (i := 5) rfl rfl rfl rfl rfl (op_nilCheck_f rfl rfl ⟨rfl, rfl⟩) ?_)
      first | (refine EOps.d 44 (none) (i := 6) rfl rfl rfl rfl rfl (op_fieldAddr_m rfl tf_81_1 rfl ⟨rfl, rfl⟩) ?_) | (refine EOps.d 44 (none) (i := 6) rfl rfl rfl rfl rfl (op_fieldAddr_c rfl tf_81_1 rfl rfl ⟨rfl, rfl⟩) ?_)
      first | (refine EOps.d 45 (none) (i := 7) rfl rfl rfl rfl rfl (op_index_arrm (k := 0) rfl tu_79 ts_77 rfl rfl rfl (by decide) ⟨rfl, rfl⟩) ?_) | (refine EOps.d 45 (none) (i := 7) rfl rfl rfl rfl rfl (op_index_arrm (k := 1) rfl tu_79 ts_77 rfl rfl rfl (by decide) ⟨rfl, rfl⟩) ?_)
      refine EOps.d 46 (none) (i := 8) rfl rfl rfl rfl rfl (op_move rfl rfl ⟨rfl, rfl⟩) ?_
      refine EOps.d 47 (none) (i := 9) rfl rfl rfl rfl rfl (op_move rfl rfl ⟨rfl, rfl⟩) ?_
      refine EOps.wh (i := 10) rfl rfl rfl rfl (op_callat [0,0,0] (xs := [.tmp 45, .tmp 46, .tmp 47])  rfl rfl rfl (hpt _ _) (by first | exact Les.refl _ | (repeat' (first | exact Les.refl _ | refine Les.cons ?_ ?_ | exact Le.refl _ | exact Le.own _ _ _ | exact Le.nil _ | refine Le.agg ?_))) ?_)
      rintro v1 M1 ⟨rfl, g1, c1, g2, c2, rfl⟩
      refine EOps.d 49 (none) (i := 11) rfl rfl rfl rfl rfl (op_callp (xs := [.tmp 48]) rfl rfl (hPtr) (by first | exact Les.refl _ | (repeat' (first | exact Les.refl _ | refine Les.cons ?_ ?_ | exact Le.refl _ | exact Le.own _ _ _ | exact Le.nil _ | refine Le.agg ?_))) ⟨rfl, rfl⟩) ?_
      refine EOps.d 37 (none) (i := 12) rfl rfl rfl rfl rfl (op_move rfl rfl ⟨rfl, rfl⟩) ?_
      refine EOps.d 50 (none) (i := 13) rfl rfl rfl rfl rfl (op_extract rfl rfl rfl ⟨rfl, rfl⟩) ?_
      refine EOps.d 51 (none) (i := 14) rfl rfl rfl rfl rfl (op_extract rfl rfl rfl ⟨rfl, rfl⟩) ?_
      refine EOps.d 12 (none) (i := 15) rfl rfl rfl rfl rfl (op_assign rfl rfl ⟨rfl, rfl⟩) ?_
      refine EOps.d 13 (none) (i := 16) rfl rfl rfl rfl rfl (op_assign rfl rfl ⟨rfl, rfl⟩) ?_
      show AGo _ _ _ _ _ _ _
      refine go_code ?_
      refine c_seq ?_
      refine c_region ?_
      refine AOps.st 52 rfl rfl rfl (op_move rfl rfl ?_)
      refine AOps.st 8 rfl rfl rfl (op_assign rfl rfl ?_)
      refine AOps.st 9 rfl rfl rfl (op_assign rfl rfl ?_)
      refine AOps.nil ?_
      refine go_code ?_
      refine c_ret ?_
      exact out_tt rfl rfl rfl (Le.refl _) (by first | exact MLe.none _ | exact MLe.refl _ | (repeat' (first | exact MLe.nil | exact MLe.refl _ | refine MLe.cons _ ?_ | refine MLe.drop _ ?_))) (.inl ⟨Classical.not_not.1 g36, rfl, hpush true g1 c1 g2 c2 _ _⟩)
    · refine c_cond_t rfl ?_
      refine c_seq ?_
      refine c_region ?_
      refine AOps.st 8 rfl rfl rfl (op_assign rfl rfl ?_)
      refine AOps.st 9 rfl rfl rfl (op_assign rfl rfl ?_)
      refine AOps.nil ?_
      refine go_code ?_
      refine c_ret ?_
      exact out_tt rfl rfl rfl (Le.refl _) (by first | exact MLe.none _ | exact MLe.refl _ | (repeat' (first | exact MLe.nil | exact MLe.refl _ | refine MLe.cons _ ?_ | refine MLe.drop _ ?_))) (.inr ⟨g36, rfl, rfl⟩)
end Go.Proofs.Ytecpnlhjjmcllaa
namespace Go.Proofs.Ytecpnlhjjmcllaa
open Go.RowKit
set_option maxHeartbeats 4000000 in
set_option maxRecDepth 100000 in
theorem putr_false (b : Nat) (s n x y : AV) (gw cw gb cb k g2 n2 c2 c3 l cnt : Nat) (EW EB E2 : List (List AV)) (hd : Int) (hW : EW.length = k) (hB : EB.length = k) (hk : 0 < k) (hm : k + cnt ≤ 1000000000) (hl : l + cnt ≤ E2.length) : ACall Try.prog 49 [.ptr b 1, .val (.int .u64 hd), .val (.slice (some ⟨g2, l * 1, none⟩) cnt c3)] [.loc b (spc false s n (.val (rowv gw k cw)) (.val (rowv gb k cb)) x y), .row 42 1 (rowv gw k cw) EW, .row 4 1 (rowv gb k cb) EB, .row 42 1 (rowv g2 n2 c2) E2]
    (fun v M' => v = .val (.int .i64 k) ∧ ∃ gw' cw' gb' cb', M' = [.loc b (spc false s n (.val (rowv gw' (k + 1 + cnt) cw')) (.val (rowv gb' (k + 1 + cnt) cb')) x y), .row 42 1 (rowv gw' (k + 1 + cnt) cw') (EW ++ iv hd :: (E2.drop l).take cnt), .row 4 1 (rowv gb' (k + 1 + cnt) cb') (EB ++ bv true :: List.replicate cnt (bv false)), .row 42 1 (rowv g2 n2 c2) E2]) := by
  subst hW
  refine ACall.enter Try.func49 rfl (by kernel_rfl) rfl (Nat.le_of_ble_eq_true rfl) ?_
  refine c_start ?_
  refine c_seq ?_
  refine c_region ?_
  refine AOps.st 6 rfl rfl rfl (op_assign rfl rfl ?_)
  refine AOps.nil ?_
  refine go_code ?_
  refine c_seq ?_
  refine c_region ?_
  refine AOps.st 8 rfl rfl rfl (op_move rfl rfl ?_)
  first | (refine AOps.st 9 rfl rfl rfl (op_nilCheck_m rfl rfl ?_)) | (refine AOps.st 9 rfl rfl rfl (op_nilCheck_c rfl rfl ?_)) | (refine AOps.st 9 rfl rfl rfl (op_nilCheck_f rfl rfl ?_))
  first | (refine AOps.st 10 rfl rfl rfl (op_fieldAddr_m rfl tf_77_0 rfl ?_)) | (refine AOps.st 10 rfl rfl rfl (op_fieldAddr_c rfl tf_77_0 rfl rfl ?_))
  first | (refine AOps.st 11 rfl rfl rfl (op_load_m1 (i := 0) rfl ta_34 rfl rfl rfl ?_)) | (refine AOps.st 11 rfl rfl rfl (op_load_m1 (i := 1) rfl ta_34 rfl rfl rfl ?_)) | (refine AOps.st 11 rfl rfl rfl (op_load_m1 (i := 2) rfl ta_34 rfl rfl rfl ?_)) | (refine AOps.st 11 rfl rfl rfl (op_load_m1 (i := 3) rfl ta_34 rfl rfl rfl ?_)) | (refine AOps.st 11 rfl rfl rfl (op_load_m1 (i := 4) rfl ta_34 rfl rfl rfl ?_)) | (refine AOps.st 11 rfl rfl rfl (op_load_m1 (i := 5) rfl ta_34 rfl rfl rfl ?_)) | (refine AOps.st 11 rfl rfl rfl (op_load_m1 (i := 6) rfl ta_34 rfl rfl rfl ?_)) | (refine AOps.st 11 rfl rfl rfl (op_load_m1 (i := 7) rfl ta_34 rfl rfl rfl ?_)) | (refine AOps.st 11 rfl rfl rfl (op_load_m1 (i := 8) rfl ta_34 rfl rfl rfl ?_)) | (refine AOps.st 11 rfl rfl rfl (op_load_m1 (i := 9) rfl ta_34 rfl rfl rfl ?_)) | (refine AOps.st 11 rfl rfl rfl (op_load_c1 rfl ta_34 rfl rfl ?_))
  refine AOps.st 12 rfl rfl rfl (op_len_val rfl tu_34 rfl ?_)
  refine AOps.st 7 rfl rfl rfl (op_assign rfl rfl ?_)
  refine AOps.nil ?_
  refine go_code ?_
  refine c_seq ?_
  refine c_region ?_
  refine AOps.st 13 rfl rfl rfl (op_move rfl rfl ?_)
  refine AOps.st 14 rfl rfl rfl (op_move rfl rfl ?_)
  first | (refine AOps.st 15 rfl rfl rfl (op_nilCheck_m rfl rfl ?_)) | (refine AOps.st 15 rfl rfl rfl (op_nilCheck_c rfl rfl ?_)) | (refine AOps.st 15 rfl rfl rfl (op_nilCheck_f rfl rfl ?_))
  first | (refine AOps.st 16 rfl rfl rfl (op_fieldAddr_m rfl tf_77_0 rfl ?_)) | (refine AOps.st 16 rfl rfl rfl (op_fieldAddr_c rfl tf_77_0 rfl rfl ?_))
  first | (refine AOps.st 17 rfl rfl rfl (op_load_m1 (i := 0) rfl ta_34 rfl rfl rfl ?_)) | (refine AOps.st 17 rfl rfl rfl (op_load_m1 (i := 1) rfl ta_34 rfl rfl rfl ?_)) | (refine AOps.st 17 rfl rfl rfl (op_load_m1 (i := 2) rfl ta_34 rfl rfl rfl ?_)) | (refine AOps.st 17 rfl rfl rfl (op_load_m1 (i := 3) rfl ta_34 rfl rfl rfl ?_)) | (refine AOps.st 17 rfl rfl rfl (op_load_m1 (i := 4) rfl ta_34 rfl rfl rfl ?_)) | (refine AOps.st 17 rfl rfl rfl (op_load_m1 (i := 5) rfl ta_34 rfl rfl rfl ?_)) | (refine AOps.st 17 rfl rfl rfl (op_load_m1 (i := 6) rfl ta_34 rfl rfl rfl ?_)) | (refine AOps.st 17 rfl rfl rfl (op_load_m1 (i := 7) rfl ta_34 rfl rfl rfl ?_)) | (refine AOps.st 17 rfl rfl rfl (op_load_m1 (i := 8) rfl ta_34 rfl rfl rfl ?_)) | (refine AOps.st 17 rfl rfl rfl (op_load_m1 (i := 9) rfl ta_34 rfl rfl rfl ?_)) | (refine AOps.st 17 rfl rfl rfl (op_load_c1 rfl ta_34 rfl rfl ?_))
  refine AOps.st 18 rfl rfl rfl (op_move rfl rfl ?_)
  refine AOps.st 19 rfl rfl rfl (op_buildSlice (xs := [.tmp 18]) el_34 rfl rfl rfl rfl rfl rfl (Nat.le_of_ble_eq_true rfl) ?_)
  first | (refine AOps.st 20 rfl rfl rfl (op_append_rowg (i := 1) el_34 rfl rfl rfl rfl (.seq _ _) (by first | (simp; done) | (simp; omega) | omega) (by first | (simp; done) | (simp; omega) | omega) ?_)) | (refine AOps.st 20 rfl rfl rfl (op_append_rowg (i := 1) el_34 rfl rfl rfl rfl (.own _ _ _) (by first | (simp; done) | (simp; omega) | omega) (by first | (simp; done) | (simp; omega) | omega) ?_)) | (refine AOps.st 20 rfl rfl rfl (op_append_rowg (i := 1) el_34 rfl rfl rfl rfl (.nil _) (by first | (simp; done) | (simp; omega) | omega) (by first | (simp; done) | (simp; omega) | omega) ?_))
  intro g20 a20
  refine AOps.st 21 rfl rfl rfl (op_move rfl rfl ?_)
  refine AOps.st 22 rfl rfl rfl (op_append_rowr (i := 1) (j := 3) (l := l) el_34 rfl rfl rfl rfl rfl (by first | (simp; done) | (simp; omega) | omega) (by first | (simp; done) | (simp; omega) | omega) (by first | (simp; done) | (simp; omega) | omega) ?_)
  intro g22 a22
  first | (refine AOps.st 23 rfl rfl rfl (op_nilCheck_m rfl rfl ?_)) | (refine AOps.st 23 rfl rfl rfl (op_nilCheck_c rfl rfl ?_)) | (refine AOps.st 23 rfl rfl rfl (op_nilCheck_f rfl rfl ?_))
  first | (refine AOps.st 24 rfl rfl rfl (op_fieldAddr_m rfl tf_77_0 rfl ?_)) | (refine AOps.st 24 rfl rfl rfl (op_fieldAddr_c rfl tf_77_0 rfl rfl ?_))
  first | (refine AOps.st0 rfl rfl (op_store (i := 0) rfl ts_34 rfl rfl rfl rfl rfl (Nat.le_of_ble_eq_true rfl) rfl ?_)) | (refine AOps.st0 rfl rfl (op_store (i := 1) rfl ts_34 rfl rfl rfl rfl rfl (Nat.le_of_ble_eq_true rfl) rfl ?_)) | (refine AOps.st0 rfl rfl (op_store (i := 2) rfl ts_34 rfl rfl rfl rfl rfl (Nat.le_of_ble_eq_true rfl) rfl ?_)) | (refine AOps.st0 rfl rfl (op_store (i := 3) rfl ts_34 rfl rfl rfl rfl rfl (Nat.le_of_ble_eq_true rfl) rfl ?_)) | (refine AOps.st0 rfl rfl (op_store (i := 4) rfl ts_34 rfl rfl rfl rfl rfl (Nat.le_of_ble_eq_true rfl) rfl ?_)) | (refine AOps.st0 rfl rfl (op_store (i := 5) rfl ts_34 rfl rfl rfl rfl rfl (Nat.le_of_ble_eq_true rfl) rfl ?_)) | (refine AOps.st0 rfl rfl (op_store (i := 6) rfl ts_34 rfl rfl rfl rfl rfl (Nat.le_of_ble_eq_true rfl) rfl ?_)) | (refine AOps.st0 rfl rfl (op_store (i := 7) rfl ts_34 rfl rfl rfl rfl rfl (Nat.le_of_ble_eq_true rfl) rfl ?_)) | (refine AOps.st0 rfl rfl (op_store (i := 8) rfl ts_34 rfl rfl rfl rfl rfl (Nat.le_of_ble_eq_true rfl) rfl ?_)) | (refine AOps.st0 rfl rfl (op_store (i := 9) rfl ts_34 rfl rfl rfl rfl rfl (Nat.le_of_ble_eq_true rfl) rfl ?_))
  refine AOps.nil ?_
  refine go_code ?_
  refine c_seq ?_
  refine c_region ?_
  refine AOps.st 25 rfl rfl rfl (op_move rfl rfl ?_)
  refine AOps.st 26 rfl rfl rfl (op_move rfl rfl ?_)
  first | (refine AOps.st 27 rfl rfl rfl (op_nilCheck_m rfl rfl ?_)) | (refine AOps.st 27 rfl rfl rfl (op_nilCheck_c rfl rfl ?_)) | (refine AOps.st 27 rfl rfl rfl (op_nilCheck_f rfl rfl ?_))
  first | (refine AOps.st 28 rfl rfl rfl (op_fieldAddr_m rfl tf_77_1 rfl ?_)) | (refine AOps.st 28 rfl rfl rfl (op_fieldAddr_c rfl tf_77_1 rfl rfl ?_))
  first | (refine AOps.st 29 rfl rfl rfl (op_load_m1 (i := 0) rfl ta_75 rfl rfl rfl ?_)) | (refine AOps.st 29 rfl rfl rfl (op_load_m1 (i := 1) rfl ta_75 rfl rfl rfl ?_)) | (refine AOps.st 29 rfl rfl rfl (op_load_m1 (i := 2) rfl ta_75 rfl rfl rfl ?_)) | (refine AOps.st 29 rfl rfl rfl (op_load_m1 (i := 3) rfl ta_75 rfl rfl rfl ?_)) | (refine AOps.st 29 rfl rfl rfl (op_load_m1 (i := 4) rfl ta_75 rfl rfl rfl ?_)) | (refine AOps.st 29 rfl rfl rfl (op_load_m1 (i := 5) rfl ta_75 rfl rfl rfl ?_)) | (refine AOps.st 29 rfl rfl rfl (op_load_m1 (i := 6) rfl ta_75 rfl rfl rfl ?_)) | (refine AOps.st 29 rfl rfl rfl (op_load_m1 (i := 7) rfl ta_75 rfl rfl rfl ?_)) | (refine AOps.st 29 rfl rfl rfl (op_load_m1 (i := 8) rfl ta_75 rfl rfl rfl ?_)) | (refine AOps.st 29 rfl rfl rfl (op_load_m1 (i := 9) rfl ta_75 rfl rfl rfl ?_)) | (refine AOps.st 29 rfl rfl rfl (op_load_c1 rfl ta_75 rfl rfl ?_))
  refine AOps.st 30 rfl rfl rfl (op_buildSlice (xs := [.const (.bool true)]) el_75 rfl rfl rfl rfl rfl rfl (Nat.le_of_ble_eq_true rfl) ?_)
  first | (refine AOps.st 31 rfl rfl rfl (op_append_rowg (i := 2) el_75 rfl rfl rfl rfl (.seq _ _) (by first | (simp; done) | (simp; omega) | omega) (by first | (simp; done) | (simp; omega) | omega) ?_)) | (refine AOps.st 31 rfl rfl rfl (op_append_rowg (i := 2) el_75 rfl rfl rfl rfl (.own _ _ _) (by first | (simp; done) | (simp; omega) | omega) (by first | (simp; done) | (simp; omega) | omega) ?_)) | (refine AOps.st 31 rfl rfl rfl (op_append_rowg (i := 2) el_75 rfl rfl rfl rfl (.nil _) (by first | (simp; done) | (simp; omega) | omega) (by first | (simp; done) | (simp; omega) | omega) ?_))
  intro g31 a31
  first | (refine AOps.st 32 rfl rfl rfl (op_nilCheck_m rfl rfl ?_)) | (refine AOps.st 32 rfl rfl rfl (op_nilCheck_c rfl rfl ?_)) | (refine AOps.st 32 rfl rfl rfl (op_nilCheck_f rfl rfl ?_))
  first | (refine AOps.st 33 rfl rfl rfl (op_fieldAddr_m rfl tf_77_1 rfl ?_)) | (refine AOps.st 33 rfl rfl rfl (op_fieldAddr_c rfl tf_77_1 rfl rfl ?_))
  first | (refine AOps.st0 rfl rfl (op_store (i := 0) rfl ts_75 rfl rfl rfl rfl rfl (Nat.le_of_ble_eq_true rfl) rfl ?_)) | (refine AOps.st0 rfl rfl (op_store (i := 1) rfl ts_75 rfl rfl rfl rfl rfl (Nat.le_of_ble_eq_true rfl) rfl ?_)) | (refine AOps.st0 rfl rfl (op_store (i := 2) rfl ts_75 rfl rfl rfl rfl rfl (Nat.le_of_ble_eq_true rfl) rfl ?_)) | (refine AOps.st0 rfl rfl (op_store (i := 3) rfl ts_75 rfl rfl rfl rfl rfl (Nat.le_of_ble_eq_true rfl) rfl ?_)) | (refine AOps.st0 rfl rfl (op_store (i := 4) rfl ts_75 rfl rfl rfl rfl rfl (Nat.le_of_ble_eq_true rfl) rfl ?_)) | (refine AOps.st0 rfl rfl (op_store (i := 5) rfl ts_75 rfl rfl rfl rfl rfl (Nat.le_of_ble_eq_true rfl) rfl ?_)) | (refine AOps.st0 rfl rfl (op_store (i := 6) rfl ts_75 rfl rfl rfl rfl rfl (Nat.le_of_ble_eq_true rfl) rfl ?_)) | (refine AOps.st0 rfl rfl (op_store (i := 7) rfl ts_75 rfl rfl rfl rfl rfl (Nat.le_of_ble_eq_true rfl) rfl ?_)) | (refine AOps.st0 rfl rfl (op_store (i := 8) rfl ts_75 rfl rfl rfl rfl rfl (Nat.le_of_ble_eq_true rfl) rfl ?_)) | (refine AOps.st0 rfl rfl (op_store (i := 9) rfl ts_75 rfl rfl rfl rfl rfl (Nat.le_of_ble_eq_true rfl) rfl ?_))
  refine AOps.nil ?_
  refine go_code ?_
  refine c_seq ?_
  refine c_seq ?_
  refine c_region ?_
  refine AOps.st 34 rfl rfl rfl (op_move rfl rfl ?_)
  refine AOps.st 35 rfl rfl rfl (op_len_val rfl tu_34 rfl ?_)
  refine AOps.st 36 rfl rfl rfl (op_move rfl rfl ?_)
  refine AOps.nil ?_
  refine go_code ?_
  refine c_block ?_
  apply c_loopk [1, 2, 3, 4, 5, 8, 9, 10, 11, 12, 13, 14, 15, 16, 17, 18, 19, 20, 21, 22, 23, 24, 25, 26, 27, 28, 29, 30, 31, 32, 33, 34, 36, 37, 38, 39, 40, 41, 42, 43, 44, 45, 46, 47] (σ := Nat × Nat × Nat) (fun zz => match zz with | (j, g, c) => [(36, .val (.int .i64 j))]) (fun zz => match zz with | (j, g, c) => [.loc b (spc false s n (.val (rowv g22 (EW.length + 1 + cnt) a22)) (.val (rowv g (EW.length + 1 + j) c)) x y), .row 42 1 (rowv g22 (EW.length + 1 + cnt) a22) (EW ++ [iv hd] ++ (E2.drop l).take cnt), .row 4 1 (rowv g (EW.length + 1 + j) c) (EB ++ [bv true] ++ List.replicate j (bv false)), .row 42 1 (rowv g2 n2 c2) E2]) (fun zz => match zz with | (j, g, c) => j ≤ cnt) (fun zz => match zz with | (j, g, c) => cnt - j) ((0, g31, a31))
  · repeat' (first | exact Drops.nil | apply Drops.keep rfl | apply Drops.skip rfl)
  · exact Nat.zero_le _
  · exact (by repeat' (first | exact SLe.nil _ | refine SLe.cons rfl ?_ ?_ | exact Le.refl _ | exact Le.own _ _ _ | exact Le.nil _))
  · exact (MLe.of_eq (by simp [hB, spc, setL, AV.cells, iv, bv]))
  rintro ⟨j, g, c⟩ hI
  try dsimp only [List.cons_append, List.nil_append] at hI ⊢
  refine c_seq ?_
  refine c_region ?_
  refine AOps.st 37 rfl rfl rfl (op_lss rfl rfl rfl ?_); intro c37 h37
  refine AOps.nil ?_
  refine go_code ?_
  refine c_seq ?_
  rcases bool_split h37 with ⟨rfl, g37⟩ | ⟨rfl, g37⟩
  · refine c_cond_f rfl ?_
    refine c_exit ?_
    refine x_code ?_
    refine x_lp ?_
    refine x_here ?_
    refine go_code ?_
    refine c_seq ?_
    obtain rfl : j = cnt := by omega
    refine c_region ?_
    refine AOps.st 48 rfl rfl rfl (op_move rfl rfl ?_)
    refine AOps.st 6 rfl rfl rfl (op_assign rfl rfl ?_)
    refine AOps.nil ?_
    refine go_code ?_
    refine c_ret ?_
    exact out_tmp rfl rfl (Le.refl _) (MLe.of_eq (by simp)) ⟨rfl, g22, a22, g, c, rfl⟩
  · refine c_cond_t rfl ?_
    refine c_skip ?_
    refine go_code ?_
    refine c_seq ?_
    refine c_block ?_
    refine c_region ?_
    refine AOps.st 38 rfl rfl rfl (op_move rfl rfl ?_)
    refine AOps.st 39 rfl rfl rfl (op_move rfl rfl ?_)
    first | (refine AOps.st 40 rfl rfl rfl (op_nilCheck_m rfl rfl ?_)) | (refine AOps.st 40 rfl rfl rfl (op_nilCheck_c rfl rfl ?_)) | (refine AOps.st 40 rfl rfl rfl (op_nilCheck_f rfl rfl ?_))
    first | (refine AOps.st 41 rfl rfl rfl (op_fieldAddr_m rfl tf_77_1 rfl ?_)) | (refine AOps.st 41 rfl rfl rfl (op_fieldAddr_c rfl tf_77_1 rfl rfl ?_))
    first | (refine AOps.st 42 rfl rfl rfl (op_load_m1 (i := 0) rfl ta_75 rfl rfl rfl ?_)) | (refine AOps.st 42 rfl rfl rfl (op_load_m1 (i := 1) rfl ta_75 rfl rfl rfl ?_)) | (refine AOps.st 42 rfl rfl rfl (op_load_m1 (i := 2) rfl ta_75 rfl rfl rfl ?_)) | (refine AOps.st 42 rfl rfl rfl (op_load_m1 (i := 3) rfl ta_75 rfl rfl rfl ?_)) | (refine AOps.st 42 rfl rfl rfl (op_load_m1 (i := 4) rfl ta_75 rfl rfl rfl ?_)) | (refine AOps.st 42 rfl rfl rfl (op_load_m1 (i := 5) rfl ta_75 rfl rfl rfl ?_)) | (refine AOps.st 42 rfl rfl rfl (op_load_m1 (i := 6) rfl ta_75 rfl rfl rfl ?_)) | (refine AOps.st 42 rfl rfl rfl (op_load_m1 (i := 7) rfl ta_75 rfl rfl rfl ?_)) | (refine AOps.st 42 rfl rfl rfl (op_load_m1 (i := 8) rfl ta_75 rfl rfl rfl ?_)) | (refine AOps.st 42 rfl rfl rfl (op_load_m1 (i := 9) rfl ta_75 rfl rfl rfl ?_)) | (refine AOps.st 42 rfl rfl rfl (op_load_c1 rfl ta_75 rfl rfl ?_))
    refine AOps.st 43 rfl rfl rfl (op_buildSlice (xs := [.const (.bool false)]) el_75 rfl rfl rfl rfl rfl rfl (Nat.le_of_ble_eq_true rfl) ?_)
    first | (refine AOps.st 44 rfl rfl rfl (op_append_rowg (i := 2) el_75 rfl rfl rfl rfl (.seq _ _) (by first | (simp; done) | (simp; omega) | omega) (by first | (simp; done) | (simp; omega) | omega) ?_)) | (refine AOps.st 44 rfl rfl rfl (op_append_rowg (i := 2) el_75 rfl rfl rfl rfl (.own _ _ _) (by first | (simp; done) | (simp; omega) | omega) (by first | (simp; done) | (simp; omega) | omega) ?_)) | (refine AOps.st 44 rfl rfl rfl (op_append_rowg (i := 2) el_75 rfl rfl rfl rfl (.nil _) (by first | (simp; done) | (simp; omega) | omega) (by first | (simp; done) | (simp; omega) | omega) ?_))
    intro g44 a44
    first | (refine AOps.st 45 rfl rfl rfl (op_nilCheck_m rfl rfl ?_)) | (refine AOps.st 45 rfl rfl rfl (op_nilCheck_c rfl rfl ?_)) | (refine AOps.st 45 rfl rfl rfl (op_nilCheck_f rfl rfl ?_))
    first | (refine AOps.st 46 rfl rfl rfl (op_fieldAddr_m rfl tf_77_1 rfl ?_)) | (refine AOps.st 46 rfl rfl rfl (op_fieldAddr_c rfl tf_77_1 rfl rfl ?_))
    first | (refine AOps.st0 rfl rfl (op_store (i := 0) rfl ts_75 rfl rfl rfl rfl rfl (Nat.le_of_ble_eq_true rfl) rfl ?_)) | (refine AOps.st0 rfl rfl (op_store (i := 1) rfl ts_75 rfl rfl rfl rfl rfl (Nat.le_of_ble_eq_true rfl) rfl ?_)) | (refine AOps.st0 rfl rfl (op_store (i := 2) rfl ts_75 rfl rfl rfl rfl rfl (Nat.le_of_ble_eq_true rfl) rfl ?_)) | (refine AOps.st0 rfl rfl (op_store (i := 3) rfl ts_75 rfl rfl rfl rfl rfl (Nat.le_of_ble_eq_true rfl) rfl ?_)) | (refine AOps.st0 rfl rfl (op_store (i := 4) rfl ts_75 rfl rfl rfl rfl rfl (Nat.le_of_ble_eq_true rfl) rfl ?_)) | (refine AOps.st0 rfl rfl (op_store (i := 5) rfl ts_75 rfl rfl rfl rfl rfl (Nat.le_of_ble_eq_true rfl) rfl ?_)) | (refine AOps.st0 rfl rfl (op_store (i := 6) rfl ts_75 rfl rfl rfl rfl rfl (Nat.le_of_ble_eq_true rfl) rfl ?_)) | (refine AOps.st0 rfl rfl (op_store (i := 7) rfl ts_75 rfl rfl rfl rfl rfl (Nat.le_of_ble_eq_true rfl) rfl ?_)) | (refine AOps.st0 rfl rfl (op_store (i := 8) rfl ts_75 rfl rfl rfl rfl rfl (Nat.le_of_ble_eq_true rfl) rfl ?_)) | (refine AOps.st0 rfl rfl (op_store (i := 9) rfl ts_75 rfl rfl rfl rfl rfl (Nat.le_of_ble_eq_true rfl) rfl ?_))
    refine AOps.nil ?_
    refine go_blk ?_
    refine go_code ?_
    refine c_region ?_
    first | (refine AOps.st 47 rfl rfl rfl (op_add rfl rfl rfl (IntWalk.i64_in _ (by omega)) ?_)) | (refine AOps.st 47 rfl rfl rfl (op_add rfl rfl rfl rfl ?_))
    refine AOps.st 36 rfl rfl rfl (op_move rfl rfl ?_)
    refine AOps.nil ?_
    refine go_lp ?_
    exact ⟨(j + 1, g44, a44), by show j + 1 ≤ _; omega, by simp; omega, (by repeat' (first | exact SLe.nil _ | refine SLe.cons rfl ?_ ?_ | exact Le.refl _ | exact Le.own _ _ _ | exact Le.nil _)), (MLe.of_eq (by simp [hB, spc, setL, AV.cells, List.replicate_succ', Nat.add_assoc, bv]; try omega))⟩
set_option maxHeartbeats 4000000 in
set_option maxRecDepth 100000 in
theorem putr_true (b : Nat) (s n x y : AV) (gw cw gb cb k g2 n2 c2 c3 l cnt : Nat) (EW EB E2 : List (List AV)) (hd : Int) (hW : EW.length = k) (hB : EB.length = k) (hk : 0 < k) (hm : k + cnt ≤ 1000000000) (hl : l + cnt ≤ E2.length) : ACall Try.prog 49 [.ptr b 3, .val (.int .u64 hd), .val (.slice (some ⟨g2, l * 1, none⟩) cnt c3)] [.loc b (spc true s n (.val (rowv gw k cw)) (.val (rowv gb k cb)) x y), .row 42 1 (rowv gw k cw) EW, .row 4 1 (rowv gb k cb) EB, .row 42 1 (rowv g2 n2 c2) E2]
    (fun v M' => v = .val (.int .i64 k) ∧ ∃ gw' cw' gb' cb', M' = [.loc b (spc true s n (.val (rowv gw' (k + 1 + cnt) cw')) (.val (rowv gb' (k + 1 + cnt) cb')) x y), .row 42 1 (rowv gw' (k + 1 + cnt) cw') (EW ++ iv hd :: (E2.drop l).take cnt), .row 4 1 (rowv gb' (k + 1 + cnt) cb') (EB ++ bv true :: List.replicate cnt (bv false)), .row 42 1 (rowv g2 n2 c2) E2]) := by
  subst hW
  refine ACall.enter Try.func49 rfl (by kernel_rfl) rfl (Nat.le_of_ble_eq_true rfl) ?_
  refine c_start ?_
  refine c_seq ?_
  refine c_region ?_
  refine AOps.st 6 rfl rfl rfl (op_assign rfl rfl ?_)
  refine AOps.nil ?_
  refine go_code ?_
  refine c_seq ?_
  refine c_region ?_
  refine AOps.st 8 rfl rfl rfl (op_move rfl rfl ?_)
  first | (refine AOps.st 9 rfl rfl rfl (op_nilCheck_m rfl rfl ?_)) | (refine AOps.st 9 rfl rfl rfl (op_nilCheck_c rfl rfl ?_)) | (refine AOps.st 9 rfl rfl rfl (op_nilCheck_f rfl rfl ?_))
  first | (refine AOps.st 10 rfl rfl rfl (op_fieldAddr_m rfl tf_77_0 rfl ?_)) | (refine AOps.st 10 rfl rfl rfl (op_fieldAddr_c rfl tf_77_0 rfl rfl ?_))
  first | (refine AOps.st 11 rfl rfl rfl (op_load_m1 (i := 0) rfl ta_34 rfl rfl rfl ?_)) | (refine AOps.st 11 rfl rfl rfl (op_load_m1 (i := 1) rfl ta_34 rfl rfl rfl ?_)) | (refine AOps.st 11 rfl rfl rfl (op_load_m1 (i := 2) rfl ta_34 rfl rfl rfl ?_)) | (refine AOps.st 11 rfl rfl rfl (op_load_m1 (i := 3) rfl ta_34 rfl rfl rfl ?_)) | (refine AOps.st 11 rfl rfl rfl (op_load_m1 (i := 4) rfl ta_34 rfl rfl rfl ?_)) | (refine AOps.st 11 rfl rfl rfl (op_load_m1 (i := 5) rfl ta_34 rfl rfl rfl ?_)) | (refine AOps.st 11 rfl rfl rfl (op_load_m1 (i := 6) rfl ta_34 rfl rfl rfl ?_)) | (refine AOps.st 11 rfl rfl rfl (op_load_m1 (i := 7) rfl ta_34 rfl rfl rfl ?_)) | (refine AOps.st 11 rfl rfl rfl (op_load_m1 (i := 8) rfl ta_34 rfl rfl rfl ?_)) | (refine AOps.st 11 rfl rfl rfl (op_load_m1 (i := 9) rfl ta_34 rfl rfl rfl ?_)) | (refine AOps.st 11 rfl rfl rfl (op_load_c1 rfl ta_34 rfl rfl ?_))
  refine AOps.st 12 rfl rfl rfl (op_len_val rfl tu_34 rfl ?_)
  refine AOps.st 7 rfl rfl rfl (op_assign rfl rfl ?_)
  refine AOps.nil ?_
  refine go_code ?_
  refine c_seq ?_
  refine c_region ?_
  refine AOps.st 13 rfl rfl rfl (op_move rfl rfl ?_)
  refine AOps.st 14 rfl rfl rfl (op_move rfl rfl ?_)
  first | (refine AOps.st 15 rfl rfl rfl (op_nilCheck_m rfl rfl ?_)) | (refine AOps.st 15 rfl rfl rfl (op_nilCheck_c rfl rfl ?_)) | (refine AOps.st 15 rfl rfl rfl (op_nilCheck_f rfl rfl ?_))
  first | (refine AOps.st 16 rfl rfl rfl (op_fieldAddr_m rfl tf_77_0 rfl ?_)) | (refine AOps.st 16 rfl rfl rfl (op_fieldAddr_c rfl tf_77_0 rfl rfl ?_))
  first | (refine AOps.st 17 rfl rfl rfl (op_load_m1 (i := 0) rfl ta_34 rfl rfl rfl ?_)) | (refine AOps.st 17 rfl rfl rfl (op_load_m1 (i := 1) rfl ta_34 rfl rfl rfl ?_)) | (refine AOps.st 17 rfl rfl rfl (op_load_m1 (i := 2) rfl ta_34 rfl rfl rfl ?_)) | (refine AOps.st 17 rfl rfl rfl (op_load_m1 (i := 3) rfl ta_34 rfl rfl rfl ?_)) | (refine AOps.st 17 rfl rfl rfl (op_load_m1 (i := 4) rfl ta_34 rfl rfl rfl ?_)) | (refine AOps.st 17 rfl rfl rfl (op_load_m1 (i := 5) rfl ta_34 rfl rfl rfl ?_)) | (refine AOps.st 17 rfl rfl rfl (op_load_m1 (i := 6) rfl ta_34 rfl rfl rfl ?_)) | (refine AOps.st 17 rfl rfl rfl (op_load_m1 (i := 7) rfl ta_34 rfl rfl rfl ?_)) | (refine AOps.st 17 rfl rfl rfl (op_load_m1 (i := 8) rfl ta_34 rfl rfl rfl ?_)) | (refine AOps.st 17 rfl rfl rfl (op_load_m1 (i := 9) rfl ta_34 rfl rfl rfl ?_)) | (refine AOps.st 17 rfl rfl rfl (op_load_c1 rfl ta_34 rfl rfl ?_))
  refine AOps.st 18 rfl rfl rfl (op_move rfl rfl ?_)
  refine AOps.st 19 rfl rfl rfl (op_buildSlice (xs := [.tmp 18]) el_34 rfl rfl rfl rfl rfl rfl (Nat.le_of_ble_eq_true rfl) ?_)
  first | (refine AOps.st 20 rfl rfl rfl (op_append_rowg (i := 1) el_34 rfl rfl rfl rfl (.seq _ _) (by first | (simp; done) | (simp; omega) | omega) (by first | (simp; done) | (simp; omega) | omega) ?_)) | (refine AOps.st 20 rfl rfl rfl (op_append_rowg (i := 1) el_34 rfl rfl rfl rfl (.own _ _ _) (by first | (simp; done) | (simp; omega) | omega) (by first | (simp; done) | (simp; omega) | omega) ?_)) | (refine AOps.st 20 rfl rfl rfl (op_append_rowg (i := 1) el_34 rfl rfl rfl rfl (.nil _) (by first | (simp; done) | (simp; omega) | omega) (by first | (simp; done) | (simp; omega) | omega) ?_))
  intro g20 a20
  refine AOps.st 21 rfl rfl rfl (op_move rfl rfl ?_)
  refine AOps.st 22 rfl rfl rfl (op_append_rowr (i := 1) (j := 3) (l := l) el_34 rfl rfl rfl rfl rfl (by first | (simp; done) | (simp; omega) | omega) (by first | (simp; done) | (simp; omega) | omega) (by first | (simp; done) | (simp; omega) | omega) ?_)
  intro g22 a22
  first | (refine AOps.st 23 rfl rfl rfl (op_nilCheck_m rfl rfl ?_)) | (refine AOps.st 23 rfl rfl rfl (op_nilCheck_c rfl rfl ?_)) | (refine AOps.st 23 rfl rfl rfl (op_nilCheck_f rfl rfl ?_))
  first | (refine AOps.st 24 rfl rfl rfl (op_fieldAddr_m rfl tf_77_0 rfl ?_)) | (refine AOps.st 24 rfl rfl rfl (op_fieldAddr_c rfl tf_77_0 rfl rfl ?_))
  first | (refine AOps.st0 rfl rfl (op_store (i := 0) rfl ts_34 rfl rfl rfl rfl rfl (Nat.le_of_ble_eq_true rfl) rfl ?_)) | (refine AOps.st0 rfl rfl (op_store (i := 1) rfl ts_34 rfl rfl rfl rfl rfl (Nat.le_of_ble_eq_true rfl) rfl ?_)) | (refine AOps.st0 rfl rfl (op_store (i := 2) rfl ts_34 rfl rfl rfl rfl rfl (Nat.le_of_ble_eq_true rfl) rfl ?_)) | (refine AOps.st0 rfl rfl (op_store (i := 3) rfl ts_34 rfl rfl rfl rfl rfl (Nat.le_of_ble_eq_true rfl) rfl ?_)) | (refine AOps.st0 rfl rfl (op_store (i := 4) rfl ts_34 rfl rfl rfl rfl rfl (Nat.le_of_ble_eq_true rfl) rfl ?_)) | (refine AOps.st0 rfl rfl (op_store (i := 5) rfl ts_34 rfl rfl rfl rfl rfl (Nat.le_of_ble_eq_true rfl) rfl ?_)) | (refine AOps.st0 rfl rfl (op_store (i := 6) rfl ts_34 rfl rfl rfl rfl rfl (Nat.le_of_ble_eq_true rfl) rfl ?_)) | (refine AOps.st0 rfl rfl (op_store (i := 7) rfl ts_34 rfl rfl rfl rfl rfl (Nat.le_of_ble_eq_true rfl) rfl ?_)) | (refine AOps.st0 rfl rfl (op_store (i := 8) rfl ts_34 rfl rfl rfl rfl rfl (Nat.le_of_ble_eq_true rfl) rfl ?_)) | (refine AOps.st0 rfl rfl (op_store (i := 9) rfl ts_34 rfl rfl rfl rfl rfl (Nat.le_of_ble_eq_true rfl) rfl ?_))
  refine AOps.nil ?_
  refine go_code ?_
  refine c_seq ?_
  refine c_region ?_
  refine AOps.st 25 rfl rfl rfl (op_move rfl rfl ?_)
  refine AOps.st 26 rfl rfl rfl (op_move rfl rfl ?_)
  first | (refine AOps.st 27 rfl rfl rfl (op_nilCheck_m rfl rfl ?_)) | (refine AOps.st 27 rfl rfl rfl (op_nilCheck_c rfl rfl ?_)) | (refine AOps.st 27 rfl rfl rfl (op_nilCheck_f rfl rfl ?_))
  first | (refine AOps.st 28 rfl rfl rfl (op_fieldAddr_m rfl tf_77_1 rfl ?_)) | (refine AOps.st 28 rfl rfl rfl (op_fieldAddr_c rfl tf_77_1 rfl rfl ?_))
  first | (refine AOps.st 29 rfl rfl rfl (op_load_m1 (i := 0) rfl ta_75 rfl rfl rfl ?_)) | (refine AOps.st 29 rfl rfl rfl (op_load_m1 (i := 1) rfl ta_75 rfl rfl rfl ?_)) | (refine AOps.st 29 rfl rfl rfl (op_load_m1 (i := 2) rfl ta_75 rfl rfl rfl ?_)) | (refine AOps.st 29 rfl rfl rfl (op_load_m1 (i := 3) rfl ta_75 rfl rfl rfl ?_)) | (refine AOps.st 29 rfl rfl rfl (op_load_m1 (i := 4) rfl ta_75 rfl rfl rfl ?_)) | (refine AOps.st 29 rfl rfl rfl (op_load_m1 (i := 5) rfl ta_75 rfl rfl rfl ?_)) | (refine AOps.st 29 rfl rfl rfl (op_load_m1 (i := 6) rfl ta_75 rfl rfl rfl ?_)) | (refine AOps.st 29 rfl rfl rfl (op_load_m1 (i := 7) rfl ta_75 rfl rfl rfl ?_)) | (refine AOps.st 29 rfl rfl rfl (op_load_m1 (i := 8) rfl ta_75 rfl rfl rfl ?_)) | (refine AOps.st 29 rfl rfl rfl (op_load_m1 (i := 9) rfl ta_75 rfl rfl rfl ?_)) | (refine AOps.st 29 rfl rfl rfl (op_load_c1 rfl ta_75 rfl rfl ?_))
  refine AOps.st 30 rfl rfl rfl (op_buildSlice (xs := [.const (.bool true)]) el_75 rfl rfl rfl rfl rfl rfl (Nat.le_of_ble_eq_true rfl) ?_)
  first | (refine AOps.st 31 rfl rfl rfl (op_append_rowg (i := 2) el_75 rfl rfl rfl rfl (.seq _ _) (by first | (simp; done) | (simp; omega) | omega) (by first | (simp; done) | (simp; omega) | omega) ?_)) | (refine AOps.st 31 rfl rfl rfl (op_append_rowg (i := 2) el_75 rfl rfl rfl rfl (.own _ _ _) (by first | (simp; done) | (simp; omega) | omega) (by first | (simp; done) | (simp; omega) | omega) ?_)) | (refine AOps.st 31 rfl rfl rfl (op_append_rowg (i := 2) el_75 rfl rfl rfl rfl (.nil _) (by first | (simp; done) | (simp; omega) | omega) (by first | (simp; done) | (simp; omega) | omega) ?_))
  intro g31 a31
  first | (refine AOps.st 32 rfl rfl rfl (op_nilCheck_m rfl rfl ?_)) | (refine AOps.st 32 rfl rfl rfl (op_nilCheck_c rfl rfl ?_)) | (refine AOps.st 32 rfl rfl rfl (op_nilCheck_f rfl rfl ?_))
  first | (refine AOps.st 33 rfl rfl rfl (op_fieldAddr_m rfl tf_77_1 rfl ?_)) | (refine AOps.st 33 rfl rfl rfl (op_fieldAddr_c rfl tf_77_1 rfl rfl ?_))
  first | (refine AOps.st0 rfl rfl (op_store (i := 0) rfl ts_75 rfl rfl rfl rfl rfl (Nat.le_of_ble_eq_true rfl) rfl ?_)) | (refine AOps.st0 rfl rfl (op_store (i := 1) rfl ts_75 rfl rfl rfl rfl rfl (Nat.le_of_ble_eq_true rfl) rfl ?_)) | (refine AOps.st0 rfl rfl (op_store (i := 2) rfl ts_75 rfl rfl rfl rfl rfl (Nat.le_of_ble_eq_true rfl) rfl ?_)) | (refine AOps.st0 rfl rfl (op_store (i := 3) rfl ts_75 rfl rfl rfl rfl rfl (Nat.le_of_ble_eq_true rfl) rfl ?_)) | (refine AOps.st0 rfl rfl (op_store (i := 4) rfl ts_75 rfl rfl rfl rfl rfl (Nat.le_of_ble_eq_true rfl) rfl ?_)) | (refine AOps.st0 rfl rfl (op_store (i := 5) rfl ts_75 rfl rfl rfl rfl rfl (Nat.le_of_ble_eq_true rfl) rfl ?_)) | (refine AOps.st0 rfl rfl (op_store (i := 6) rfl ts_75 rfl rfl rfl rfl rfl (Nat.le_of_ble_eq_true rfl) rfl ?_)) | (refine AOps.st0 rfl rfl (op_store (i := 7) rfl ts_75 rfl rfl rfl rfl rfl (Nat.le_of_ble_eq_true rfl) rfl ?_)) | (refine AOps.st0 rfl rfl (op_store (i := 8) rfl ts_75 rfl rfl rfl rfl rfl (Nat.le_of_ble_eq_true rfl) rfl ?_)) | (refine AOps.st0 rfl rfl (op_store (i := 9) rfl ts_75 rfl rfl rfl rfl rfl (Nat.le_of_ble_eq_true rfl) rfl ?_))
  refine AOps.nil ?_
  refine go_code ?_
  refine c_seq ?_
  refine c_seq ?_
  refine c_region ?_
  refine AOps.st 34 rfl rfl rfl (op_move rfl rfl ?_)
  refine AOps.st 35 rfl rfl rfl (op_len_val rfl tu_34 rfl ?_)
  refine AOps.st 36 rfl rfl rfl (op_move rfl rfl ?_)
  refine AOps.nil ?_
  refine go_code ?_
  refine c_block ?_
  apply c_loopk [1, 2, 3, 4, 5, 8, 9, 10, 11, 12, 13, 14, 15, 16, 17, 18, 19, 20, 21, 22, 23, 24, 25, 26, 27, 28, 29, 30, 31, 32, 33, 34, 36, 37, 38, 39, 40, 41, 42, 43, 44, 45, 46, 47] (σ := Nat × Nat × Nat) (fun zz => match zz with | (j, g, c) => [(36, .val (.int .i64 j))]) (fun zz => match zz with | (j, g, c) => [.loc b (spc true s n (.val (rowv g22 (EW.length + 1 + cnt) a22)) (.val (rowv g (EW.length + 1 + j) c)) x y), .row 42 1 (rowv g22 (EW.length + 1 + cnt) a22) (EW ++ [iv hd] ++ (E2.drop l).take cnt), .row 4 1 (rowv g (EW.length + 1 + j) c) (EB ++ [bv true] ++ List.replicate j (bv false)), .row 42 1 (rowv g2 n2 c2) E2]) (fun zz => match zz with | (j, g, c) => j ≤ cnt) (fun zz => match zz with | (j, g, c) => cnt - j) ((0, g31, a31))
  · repeat' (first | exact Drops.nil | apply Drops.keep rfl | apply Drops.skip rfl)
  · exact Nat.zero_le _
  · exact (by repeat' (first | exact SLe.nil _ | refine SLe.cons rfl ?_ ?_ | exact Le.refl _ | exact Le.own _ _ _ | exact Le.nil _))
  · exact (MLe.of_eq (by simp [hB, spc, setL, AV.cells, iv, bv]))
  rintro ⟨j, g, c⟩ hI
  try dsimp only [List.cons_append, List.nil_append] at hI ⊢
  refine c_seq ?_
  refine c_region ?_
  refine AOps.st 37 rfl rfl rfl (op_lss rfl rfl rfl ?_); intro c37 h37
  refine AOps.nil ?_
  refine go_code ?_
  refine c_seq ?_
  rcases bool_split h37 with ⟨rfl, g37⟩ | ⟨rfl, g37⟩
  · refine c_cond_f rfl ?_
    refine c_exit ?_
    refine x_code ?_
    refine x_lp ?_
    refine x_here ?_
    refine go_code ?_
    refine c_seq ?_
    obtain rfl : j = cnt := by omega
    refine c_region ?_
    refine AOps.st 48 rfl rfl rfl (op_move rfl rfl ?_)
    refine AOps.st 6 rfl rfl rfl (op_assign rfl rfl ?_)
    refine AOps.nil ?_
    refine go_code ?_
    refine c_ret ?_
    exact out_tmp rfl rfl (Le.refl _) (MLe.of_eq (by simp)) ⟨rfl, g22, a22, g, c, rfl⟩
  · refine c_cond_t rfl ?_
    refine c_skip ?_
    refine go_code ?_
    refine c_seq ?_
    refine c_block ?_
    refine c_region ?_
    refine AOps.st 38 rfl rfl rfl (op_move rfl rfl ?_)
    refine AOps.st 39 rfl rfl rfl (op_move rfl rfl ?_)
    first | (refine AOps.st 40 rfl rfl rfl (op_nilCheck_m rfl rfl ?_)) | (refine AOps.st 40 rfl rfl rfl (op_nilCheck_c rfl rfl ?_)) | (refine AOps.st 40 rfl rfl rfl (op_nilCheck_f rfl rfl ?_))
    first | (refine AOps.st 41 rfl rfl rfl (op_fieldAddr_m rfl tf_77_1 rfl ?_)) | (refine AOps.st 41 rfl rfl rfl (op_fieldAddr_c rfl tf_77_1 rfl rfl ?_))
    first | (refine AOps.st 42 rfl rfl rfl (op_load_m1 (i := 0) rfl ta_75 rfl rfl rfl ?_)) | (refine AOps.st 42 rfl rfl rfl (op_load_m1 (i := 1) rfl ta_75 rfl rfl rfl ?_)) | (refine AOps.st 42 rfl rfl rfl (op_load_m1 (i := 2) rfl ta_75 rfl rfl rfl ?_)) | (refine AOps.st 42 rfl rfl rfl (op_load_m1 (i := 3) rfl ta_75 rfl rfl rfl ?_)) | (refine AOps.st 42 rfl rfl rfl (op_load_m1 (i := 4) rfl ta_75 rfl rfl rfl ?_)) | (refine AOps.st 42 rfl rfl rfl (op_load_m1 (i := 5) rfl ta_75 rfl rfl rfl ?_)) | (refine AOps.st 42 rfl rfl rfl (op_load_m1 (i := 6) rfl ta_75 rfl rfl rfl ?_)) | (refine AOps.st 42 rfl rfl rfl (op_load_m1 (i := 7) rfl ta_75 rfl rfl rfl ?_)) | (refine AOps.st 42 rfl rfl rfl (op_load_m1 (i := 8) rfl ta_75 rfl rfl rfl ?_)) | (refine AOps.st 42 rfl rfl rfl (op_load_m1 (i := 9) rfl ta_75 rfl rfl rfl ?_)) | (refine AOps.st 42 rfl rfl rfl (op_load_c1 rfl ta_75 rfl rfl ?_))
    refine AOps.st 43 rfl rfl rfl (op_buildSlice (xs := [.const (.bool false)]) el_75 rfl rfl rfl rfl rfl rfl (Nat.le_of_ble_eq_true rfl) ?_)
    first | (refine AOps.st 44 rfl rfl rfl (op_append_rowg (i := 2) el_75 rfl rfl rfl rfl (.seq _ _) (by first | (simp; done) | (simp; omega) | omega) (by first | (simp; done) | (simp; omega) | omega) ?_)) | (refine AOps.st 44 rfl rfl rfl (op_append_rowg (i := 2) el_75 rfl rfl rfl rfl (.own _ _ _) (by first | (simp; done) | (simp; omega) | omega) (by first | (simp; done) | (simp; omega) | omega) ?_)) | (refine AOps.st 44 rfl rfl rfl (op_append_rowg (i := 2) el_75 rfl rfl rfl rfl (.nil _) (by first | (simp; done) | (simp; omega) | omega) (by first | (simp; done) | (simp; omega) | omega) ?_))
    intro g44 a44
    first | (refine AOps.st 45 rfl rfl rfl (op_nilCheck_m rfl rfl ?_)) | (refine AOps.st 45 rfl rfl rfl (op_nilCheck_c rfl rfl ?_)) | (refine AOps.st 45 rfl rfl rfl (op_nilCheck_f rfl rfl ?_))
    first | (refine AOps.st 46 rfl rfl rfl (op_fieldAddr_m rfl tf_77_1 rfl ?_)) | (refine AOps.st 46 rfl rfl rfl (op_fieldAddr_c rfl tf_77_1 rfl rfl ?_))
    first | (refine AOps.st0 rfl rfl (op_store (i := 0) rfl ts_75 rfl rfl rfl rfl rfl (Nat.le_of_ble_eq_true rfl) rfl ?_)) | (refine AOps.st0 rfl rfl (op_store (i := 1) rfl ts_75 rfl rfl rfl rfl rfl (Nat.le_of_ble_eq_true rfl) rfl ?_)) | (refine AOps.st0 rfl rfl (op_store (i := 2) rfl ts_75 rfl rfl rfl rfl rfl (Nat.le_of_ble_eq_true rfl) rfl ?_)) | (refine AOps.st0 rfl rfl (op_store (i := 3) rfl ts_75 rfl rfl rfl rfl rfl (Nat.le_of_ble_eq_true rfl) rfl ?_)) | (refine AOps.st0 rfl rfl (op_store (i := 4) rfl ts_75 rfl rfl rfl rfl rfl (Nat.le_of_ble_eq_true rfl) rfl ?_)) | (refine AOps.st0 rfl rfl (op_store (i := 5) rfl ts_75 rfl rfl rfl rfl rfl (Nat.le_of_ble_eq_true rfl) rfl ?_)) | (refine AOps.st0 rfl rfl (op_store (i := 6) rfl ts_75 rfl rfl rfl rfl rfl (Nat.le_of_ble_eq_true rfl) rfl ?_)) | (refine AOps.st0 rfl rfl (op_store (i := 7) rfl ts_75 rfl rfl rfl rfl rfl (Nat.le_of_ble_eq_true rfl) rfl ?_)) | (refine AOps.st0 rfl rfl (op_store (i := 8) rfl ts_75 rfl rfl rfl rfl rfl (Nat.le_of_ble_eq_true rfl) rfl ?_)) | (refine AOps.st0 rfl rfl (op_store (i := 9) rfl ts_75 rfl rfl rfl rfl rfl (Nat.le_of_ble_eq_true rfl) rfl ?_))
    refine AOps.nil ?_
    refine go_blk ?_
    refine go_code ?_
    refine c_region ?_
    first | (refine AOps.st 47 rfl rfl rfl (op_add rfl rfl rfl (IntWalk.i64_in _ (by omega)) ?_)) | (refine AOps.st 47 rfl rfl rfl (op_add rfl rfl rfl rfl ?_))
    refine AOps.st 36 rfl rfl rfl (op_move rfl rfl ?_)
    refine AOps.nil ?_
    refine go_lp ?_
    exact ⟨(j + 1, g44, a44), by show j + 1 ≤ _; omega, by simp; omega, (by repeat' (first | exact SLe.nil _ | refine SLe.cons rfl ?_ ?_ | exact Le.refl _ | exact Le.own _ _ _ | exact Le.nil _)), (MLe.of_eq (by simp [hB, spc, setL, AV.cells, List.replicate_succ', Nat.add_assoc, bv]; try omega))⟩
set_option maxHeartbeats 4000000 in
set_option maxRecDepth 100000 in
theorem move_c (now : Bool) (b : Nat) (s : AV) (fw fcw fb fcb tw tcw tb tcb : Nat) (W : List Int) (H T : List HO) (o : HO) (w : Int) (h0 : 0 ≤ w) (h1 : w ≤ 18446744073709551615) (hu : used H ≤ 16777216) (hT : used T ≤ 16777216) (hW : W.length = used H + 1) (a : Nat) (ha : atV w = (a : Int)) (hat : atB (hb H) w = true) (ho : o.ok) (hx : W[a]? = some o.head) (hps : (W.drop (a + 1)).take o.parts.length = o.parts) (hfit : a + 1 + o.parts.length ≤ used H + 1) :
    ACall Try.prog 46 [.agg [.ptr b (if now then 3 else 1), .ptr b (if now then 1 else 3)], .val (.int .u64 w)]
      [.loc b (spc now s (nowV now) (.val (rowv fw (used H + 1) fcw)) (.val (rowv fb (used H + 1) fcb)) (.val (rowv tw (used T + 1) tcw)) (.val (rowv tb (used T + 1) tcb))), .row 42 1 (rowv fw (used H + 1) fcw) (W.map iv), .row 4 1 (rowv fb (used H + 1) fcb) ((hb H).map bv), .row 42 1 (rowv tw (used T + 1) tcw) ((hw T).map iv), .row 4 1 (rowv tb (used T + 1) tcb) ((hb T).map bv)]
      (fun v M' => v = .val (.int .u64 (2 * (used T + 1 : Nat))) ∧ ∃ tw' tcw' tb' tcb', M' = [.loc b (spc now s (nowV now) (.val (rowv fw (used H + 1) fcw)) (.val (rowv fb (used H + 1) fcb)) (.val (rowv tw' (used (T ++ [o]) + 1) tcw')) (.val (rowv tb' (used (T ++ [o]) + 1) tcb'))), .row 42 1 (rowv fw (used H + 1) fcw) ((W.set a (2 * (used T + 1 : Nat))).map iv), .row 4 1 (rowv fb (used H + 1) fcb) ((hb H).map bv), .row 42 1 (rowv tw' (used (T ++ [o]) + 1) tcw') ((hw (T ++ [o])).map iv), .row 4 1 (rowv tb' (used (T ++ [o]) + 1) tcb') ((hb (T ++ [o])).map bv)]) := by
  have hA := fun n x y => at_c now b s n x y fw fcw fb fcb (used H + 1) W (hb H) w h0 h1 hW (hb_len H)
  rw [hat, ha] at hA
  simp only [if_true] at hA
  obtain ⟨e1, e2, e3, e4⟩ := HO.open_ ho
  have hO := Open_p o.head (headW_lo _ _ _) (headW_hi _ _ _)
  have hI := IsInt_p o.head (headW_lo _ _ _) (headW_hi _ _ _)
  have hI1 : isI o.head = true := by
    unfold openOk at e1
    simp only [Bool.and_eq_true] at e1
    exact e1.1.1
  rw [hI1] at hI
  rw [e1, e2, e3, e4] at hO
  have hPtr := Ptr_p (used T + 1 : Nat) (by omega) (by omega)
  have hpw : ptrW (used T + 1 : Nat) = 2 * (used T + 1 : Nat) := by unfold ptrW ptrOk; rw [if_pos (by simp; omega)]
  rw [hpw] at hPtr
  have hsz : o.parts.length ≤ 16777216 := by have := ho.1; unfold headOk at this; simp at this; omega
  have hpos := ho.2.1
  have hlW : (W.map iv).length = used H + 1 := by simpa using hW
  have hlT : ((hw T).map iv).length = used T + 1 := by simpa using hw_len T
  have hlB : ((hb T).map bv).length = used T + 1 := by simpa using hb_len T
  have hx2 : (W.map iv)[a]? = some [.val (.int .u64 o.head)] := by rw [List.getElem?_map, hx]; rfl
  have hps2 : ((W.map iv).drop (a + 1)).take o.parts.length = o.parts.map iv := by rw [← List.map_drop, ← List.map_take, hps]
  have hst : (W.map iv).set a (iv (2 * (used T + 1 : Nat))) = (W.set a (2 * (used T + 1 : Nat))).map iv := by rw [List.map_set]
  have e : used T + 1 + 1 + o.parts.length = used (T ++ [o]) + 1 := by rw [used_app, used_one]; omega
  have e5 : (hw (T ++ [o])).map iv = (hw T).map iv ++ iv o.head :: o.parts.map iv := by rw [hw_app, HO.ws]; simp
  have e6 : (hb (T ++ [o])).map bv = (hb T).map bv ++ bv true :: List.replicate o.parts.length (bv false) := by rw [hb_app, HO.bs]; simp
  rw [← hst, ← e, e5, e6, ← hps2]
  have hp1 := fun n x y c3 => putr_false b s n x y tw tcw tb tcb (used T + 1) fw (used H + 1) fcw c3 (a + 1) o.parts.length _ _ (W.map iv) o.head hlT hlB (by omega) (by omega) (by omega)
  have hp2 := fun n x y c3 => putr_true b s n x y tw tcw tb tcb (used T + 1) fw (used H + 1) fcw c3 (a + 1) o.parts.length _ _ (W.map iv) o.head hlT hlB (by omega) (by omega) (by omega)
  generalize W.map iv = EW at *
  generalize (hw T).map iv = TW at *
  generalize (hb T).map bv = TB at *
  generalize (hb H).map bv = FB at *
  generalize o.head = hd at *
  generalize o.parts.length = pn at *
  cases now
  · simp only [spc, Bool.false_eq_true, if_false] at hA hp1 hp2 ⊢
    refine ACall.enter Try.func46 rfl (by kernel_rfl) rfl (Nat.le_of_ble_eq_true rfl) ?_
    refine c_start ?_
    refine c_seq ?_
    refine c_region ?_
    refine AOps.st 2 rfl rfl rfl (op_boxc (cs' := [_, _]) rfl rfl rfl rfl ?_)
    refine AOps.st 4 rfl rfl rfl (op_assign rfl rfl ?_)
    refine AOps.nil ?_
    refine go_code ?_
    refine c_seq ?_
    refine c_region ?_
    refine AOps.st 14 rfl rfl rfl (op_fieldAddr_c rfl tf_90_0 rfl rfl ?_)
    refine AOps.st 15 rfl rfl rfl (op_load_c1 rfl ta_87 rfl rfl ?_)
    refine AOps.st 16 rfl rfl rfl (op_move rfl rfl ?_)
    refine AOps.st 17 rfl rfl rfl (op_callk (xs := [.tmp 15, .tmp 16]) [0,0,0] rfl rfl rfl (hA _ _ _) (by first | exact Les.refl _ | (repeat' (first | exact Les.refl _ | refine Les.cons ?_ ?_ | exact Le.refl _ | exact Le.own _ _ _ | exact Le.nil _ | refine Le.agg ?_))) ?_)
    refine AOps.st 13 rfl rfl rfl (op_move rfl rfl ?_)
    refine AOps.st 18 rfl rfl rfl (op_extract rfl rfl rfl ?_)
    refine AOps.st 19 rfl rfl rfl (op_extract rfl rfl rfl ?_)
    refine AOps.st 5 rfl rfl rfl (op_assign rfl rfl ?_)
    refine AOps.st 6 rfl rfl rfl (op_assign rfl rfl ?_)
    refine AOps.nil ?_
    refine go_code ?_
    refine c_seq ?_
    refine c_seq ?_
    refine c_region ?_
    refine AOps.st 20 rfl rfl rfl (op_move rfl rfl ?_)
    refine AOps.st 21 rfl rfl rfl (op_notc rfl rfl ?_); intro c21 h21
    try replace h21 := nott h21 h19
    refine AOps.nil ?_
    refine go_code ?_
    rcases bool_split h21 with ⟨rfl, g21⟩ | ⟨rfl, g21⟩
    · refine c_cond_f rfl ?_
      refine c_skip ?_
      refine go_code ?_
      refine c_seq ?_
      refine c_seq ?_
      refine c_region ?_
      refine AOps.st 23 rfl rfl rfl (op_fieldAddr_c rfl tf_90_0 rfl rfl ?_)
      refine AOps.st 24 rfl rfl rfl (op_load_c1 rfl ta_87 rfl rfl ?_)
      first | (refine AOps.st 25 rfl rfl rfl (op_nilCheck_m rfl rfl ?_)) | (refine AOps.st 25 rfl rfl rfl (op_nilCheck_c rfl rfl ?_)) | (refine AOps.st 25 rfl rfl rfl (op_nilCheck_f rfl rfl ?_))
      first | (refine AOps.st 26 rfl rfl rfl (op_fieldAddr_m rfl tf_77_0 rfl ?_)) | (refine AOps.st 26 rfl rfl rfl (op_fieldAddr_c rfl tf_77_0 rfl rfl ?_))
      first | (refine AOps.st 27 rfl rfl rfl (op_load_m1 (i := 0) rfl ta_34 rfl rfl rfl ?_)) | (refine AOps.st 27 rfl rfl rfl (op_load_m1 (i := 1) rfl ta_34 rfl rfl rfl ?_)) | (refine AOps.st 27 rfl rfl rfl (op_load_m1 (i := 2) rfl ta_34 rfl rfl rfl ?_)) | (refine AOps.st 27 rfl rfl rfl (op_load_m1 (i := 3) rfl ta_34 rfl rfl rfl ?_)) | (refine AOps.st 27 rfl rfl rfl (op_load_m1 (i := 4) rfl ta_34 rfl rfl rfl ?_)) | (refine AOps.st 27 rfl rfl rfl (op_load_m1 (i := 5) rfl ta_34 rfl rfl rfl ?_)) | (refine AOps.st 27 rfl rfl rfl (op_load_m1 (i := 6) rfl ta_34 rfl rfl rfl ?_)) | (refine AOps.st 27 rfl rfl rfl (op_load_m1 (i := 7) rfl ta_34 rfl rfl rfl ?_)) | (refine AOps.st 27 rfl rfl rfl (op_load_m1 (i := 8) rfl ta_34 rfl rfl rfl ?_)) | (refine AOps.st 27 rfl rfl rfl (op_load_m1 (i := 9) rfl ta_34 rfl rfl rfl ?_)) | (refine AOps.st 27 rfl rfl rfl (op_load_c1 rfl ta_34 rfl rfl ?_))
      refine AOps.st 28 rfl rfl rfl (op_move rfl rfl ?_)
      refine AOps.st 29 rfl rfl rfl (op_index_row (i := 1) (k := a) rfl te_34 rfl rfl rfl (by first | rfl | omega) (by omega) ?_)
      refine AOps.st 30 rfl rfl rfl (op_load_row1 (i := 1) (k := a) (f := 0) rfl ta_42 rfl rfl rfl (hx2) rfl ?_)
      refine AOps.st 31 rfl rfl rfl (op_callp (xs := [.tmp 30]) rfl rfl (hI) (by first | exact Les.refl _ | (repeat' (first | exact Les.refl _ | refine Les.cons ?_ ?_ | exact Le.refl _ | exact Le.own _ _ _ | exact Le.nil _ | refine Le.agg ?_))) ?_)
      refine AOps.st 32 rfl rfl rfl (op_notc rfl rfl ?_); intro c32 h32
      try replace h32 := nott h32 h31
      refine AOps.nil ?_
      refine go_code ?_
      rcases bool_split h32 with ⟨rfl, g32⟩ | ⟨rfl, g32⟩
      · refine c_cond_f rfl ?_
        refine c_skip ?_
        refine go_code ?_
        refine c_seq ?_
        refine c_region ?_
        refine AOps.st 42 rfl rfl rfl (op_fieldAddr_c rfl tf_90_0 rfl rfl ?_)
        refine AOps.st 43 rfl rfl rfl (op_load_c1 rfl ta_87 rfl rfl ?_)
        first | (refine AOps.st 44 rfl rfl rfl (op_nilCheck_m rfl rfl ?_)) | (refine AOps.st 44 rfl rfl rfl (op_nilCheck_c rfl rfl ?_)) | (refine AOps.st 44 rfl rfl rfl (op_nilCheck_f rfl rfl ?_))
        first | (refine AOps.st 45 rfl rfl rfl (op_fieldAddr_m rfl tf_77_0 rfl ?_)) | (refine AOps.st 45 rfl rfl rfl (op_fieldAddr_c rfl tf_77_0 rfl rfl ?_))
        first | (refine AOps.st 46 rfl rfl rfl (op_load_m1 (i := 0) rfl ta_34 rfl rfl rfl ?_)) | (refine AOps.st 46 rfl rfl rfl (op_load_m1 (i := 1) rfl ta_34 rfl rfl rfl ?_)) | (refine AOps.st 46 rfl rfl rfl (op_load_m1 (i := 2) rfl ta_34 rfl rfl rfl ?_)) | (refine AOps.st 46 rfl rfl rfl (op_load_m1 (i := 3) rfl ta_34 rfl rfl rfl ?_)) | (refine AOps.st 46 rfl rfl rfl (op_load_m1 (i := 4) rfl ta_34 rfl rfl rfl ?_)) | (refine AOps.st 46 rfl rfl rfl (op_load_m1 (i := 5) rfl ta_34 rfl rfl rfl ?_)) | (refine AOps.st 46 rfl rfl rfl (op_load_m1 (i := 6) rfl ta_34 rfl rfl rfl ?_)) | (refine AOps.st 46 rfl rfl rfl (op_load_m1 (i := 7) rfl ta_34 rfl rfl rfl ?_)) | (refine AOps.st 46 rfl rfl rfl (op_load_m1 (i := 8) rfl ta_34 rfl rfl rfl ?_)) | (refine AOps.st 46 rfl rfl rfl (op_load_m1 (i := 9) rfl ta_34 rfl rfl rfl ?_)) | (refine AOps.st 46 rfl rfl rfl (op_load_c1 rfl ta_34 rfl rfl ?_))
        refine AOps.st 47 rfl rfl rfl (op_move rfl rfl ?_)
        refine AOps.st 48 rfl rfl rfl (op_index_row (i := 1) (k := a) rfl te_34 rfl rfl rfl (by first | rfl | omega) (by omega) ?_)
        refine AOps.st 49 rfl rfl rfl (op_load_row1 (i := 1) (k := a) (f := 0) rfl ta_42 rfl rfl rfl (hx2) rfl ?_)
        refine AOps.st 50 rfl rfl rfl (op_callp (xs := [.tmp 49]) rfl rfl (hO) (by first | exact Les.refl _ | (repeat' (first | exact Les.refl _ | refine Les.cons ?_ ?_ | exact Le.refl _ | exact Le.own _ _ _ | exact Le.nil _ | refine Le.agg ?_))) ?_)
        refine AOps.st 41 rfl rfl rfl (op_move rfl rfl ?_)
        refine AOps.st 51 rfl rfl rfl (op_extract rfl rfl rfl ?_)
        refine AOps.st 52 rfl rfl rfl (op_extract rfl rfl rfl ?_)
        refine AOps.st 53 rfl rfl rfl (op_extract rfl rfl rfl ?_)
        refine AOps.st 54 rfl rfl rfl (op_extract rfl rfl rfl ?_)
        refine AOps.st 7 rfl rfl rfl (op_assign rfl rfl ?_)
        refine AOps.st 8 rfl rfl rfl (op_assign rfl rfl ?_)
        refine AOps.st 9 rfl rfl rfl (op_assign rfl rfl ?_)
        refine AOps.st 10 rfl rfl rfl (op_assign rfl rfl ?_)
        refine AOps.nil ?_
        refine go_code ?_
        refine c_seq ?_
        refine c_drawnE [0, 1, 2, 3, 4, 5, 6, 7, 8, 9, 10, 11, 12, 13, 14, 15, 16, 17, 18, 19, 20, 21, 22, 23, 24, 25, 26, 27, 28] [22] [[], [0], [], [2], [2, 3], [2, 3, 4], [2, 3, 4, 5], [], [2, 3, 4, 5, 6, 7], [2, 3, 4, 5, 6, 7, 8], [], [10], [10, 11], [10, 11, 12], [10, 11, 12, 13], [], [15], [], [17], [], [17, 18, 19], [10, 11, 12, 13, 14, 15, 16, 17, 18, 19, 20], [0, 1, 2, 3, 4, 5, 6, 7, 8, 9, 10, 11, 12, 13, 14, 15, 16, 17, 18, 19, 20, 21], [0, 1, 2, 3, 4, 5, 6, 7, 8, 9, 10, 11, 12, 13, 14, 15, 16, 17, 18, 19, 20, 21, 22], [0, 1, 2, 3, 4, 5, 6, 7, 8, 9, 10, 11, 12, 13, 14, 15, 16, 17, 18, 19, 20, 21, 22, 23], [0, 1, 2, 3, 4, 5, 6, 7, 8, 9, 10, 11, 12, 13, 14, 15, 16, 17, 18, 19, 20, 21, 22, 23, 24], [0, 1, 2, 3, 4, 5, 6, 7, 8, 9, 10, 11, 12, 13, 14, 15, 16, 17, 18, 19, 20, 21, 22, 23, 24], [0, 1, 2, 3, 4, 5, 6, 7, 8, 9, 10, 11, 12, 13, 14, 15, 16, 17, 18, 19, 20, 21, 22, 23, 24, 25], [0, 1, 2, 3, 4, 5, 6, 7, 8, 9, 10, 11, 12, 13, 14, 15, 16, 17, 18, 19, 20, 21, 22, 23, 24, 25, 26, 27]] tmix rfl ?_
        refine EOps.d 56 (none) (i := 0) rfl rfl rfl rfl rfl (op_fieldAddr_c rfl tf_90_1 rfl rfl ⟨rfl, rfl⟩) ?_
        first | (refine EOps.d 57 (some 0) (i := 1) rfl rfl rfl rfl rfl (op_load_m1 (i := 0) rfl ta_87 rfl rfl rfl ⟨rfl, rfl⟩) ?_) | (refine EOps.d 57 (some 1) (i := 1) rfl rfl rfl rfl rfl (op_load_m1 (i := 0) rfl ta_87 rfl rfl rfl ⟨rfl, rfl⟩) ?_) | (refine EOps.d 57 (some 2) (i := 1) rfl rfl rfl rfl rfl (op_load_m1 (i := 0) rfl ta_87 rfl rfl rfl ⟨rfl, rfl⟩) ?_) | (refine EOps.d 57 (some 3) (i := 1) rfl rfl rfl rfl rfl (op_load_m1 (i := 0) rfl ta_87 rfl rfl rfl ⟨rfl, rfl⟩) ?_) | (refine EOps.d 57 (some 4) (i := 1) rfl rfl rfl rfl rfl (op_load_m1 (i := 0) rfl ta_87 rfl rfl rfl ⟨rfl, rfl⟩) ?_) | (refine EOps.d 57 (some 5) (i := 1) rfl rfl rfl rfl rfl (op_load_m1 (i := 0) rfl ta_87 rfl rfl rfl ⟨rfl, rfl⟩) ?_) | (refine EOps.d 57 (some 6) (i := 1) rfl rfl rfl rfl rfl (op_load_m1 (i := 0) rfl ta_87 rfl rfl rfl ⟨rfl, rfl⟩) ?_) | (refine EOps.d 57 (some 7) (i := 1) rfl rfl rfl rfl rfl (op_load_m1 (i := 0) rfl ta_87 rfl rfl rfl ⟨rfl, rfl⟩) ?_) | (refine EOps.d 57 (some 8) (i := 1) rfl rfl rfl rfl rfl (op_load_m1 (i := 0) rfl ta_87 rfl rfl rfl ⟨rfl, rfl⟩) ?_) | (refine EOps.d 57 (some 9) (i := 1) rfl rfl rfl rfl rfl (op_load_m1 (i := 0) rfl ta_87 rfl rfl rfl ⟨rfl, rfl⟩) ?_) | (refine EOps.d 57 (none) (i := 1) rfl rfl rfl rfl rfl (op_load_c1 rfl ta_87 rfl rfl ⟨rfl, rfl⟩) ?_)
        refine EOps.d 58 (none) (i := 2) rfl rfl rfl rfl rfl (op_fieldAddr_c rfl tf_90_0 rfl rfl ⟨rfl, rfl⟩) ?_
        first | (refine EOps.d 59 (some 0) (i := 3) rfl rfl rfl rfl rfl (op_load_m1 (i := 0) rfl ta_87 rfl rfl rfl ⟨rfl, rfl⟩) ?_) | (refine EOps.d 59 (some 1) (i := 3) rfl rfl rfl rfl rfl (op_load_m1 (i := 0) rfl ta_87 rfl rfl rfl ⟨rfl, rfl⟩) ?_) | (refine EOps.d 59 (some 2) (i := 3) rfl rfl rfl rfl rfl (op_load_m1 (i := 0) rfl ta_87 rfl rfl rfl ⟨rfl, rfl⟩) ?_) | (refine EOps.d 59 (some 3) (i := 3) rfl rfl rfl rfl rfl (op_load_m1 (i := 0) rfl ta_87 rfl rfl rfl ⟨rfl, rfl⟩) ?_) | (refine EOps.d 59 (some 4) (i := 3) rfl rfl rfl rfl rfl (op_load_m1 (i := 0) rfl ta_87 rfl rfl rfl ⟨rfl, rfl⟩) ?_) | (refine EOps.d 59 (some 5) (i := 3) rfl rfl rfl rfl rfl (op_load_m1 (i := 0) rfl ta_87 rfl rfl rfl ⟨rfl, rfl⟩) ?_) | (refine EOps.d 59 (some 6) (i := 3) rfl rfl rfl rfl rfl (op_load_m1 (i := 0) rfl ta_87 rfl rfl rfl ⟨rfl, rfl⟩) ?_) | (refine EOps.d 59 (some 7) (i := 3) rfl rfl rfl rfl rfl (op_load_m1 (i := 0) rfl ta_87 rfl rfl rfl ⟨rfl, rfl⟩) ?_) | (refine EOps.d 59 (some 8) (i := 3) rfl rfl rfl rfl rfl (op_load_m1 (i := 0) rfl ta_87 rfl rfl rfl ⟨rfl, rfl⟩) ?_) | (refine EOps.d 59 (some 9) (i := 3) rfl rfl rfl rfl rfl (op_load_m1 (i := 0) rfl ta_87 rfl rfl rfl ⟨rfl, rfl⟩) ?_) | (refine EOps.d 59 (none) (i := 3) rfl rfl rfl rfl rfl (op_load_c1 rfl ta_87 rfl rfl ⟨rfl, rfl⟩) ?_)
        first | (refine EOps.d 60 (none) (i := 4) rfl rfl rfl rfl rfl (op_nilCheck_m rfl rfl ⟨rfl, rfl⟩) ?_) | (refine EOps.d 60 (none) (i := 4) rfl rfl rfl rfl rfl (op_nilCheck_c rfl rfl ⟨rfl, rfl⟩) ?_) | (refine EOps.d 60 (none) (i := 4) rfl rfl rfl rfl rfl (op_nilCheck_f rfl rfl ⟨rfl, rfl⟩) ?_)
        first | (refine EOps.d 61 (none) (i := 5) rfl rfl rfl rfl rfl (op_fieldAddr_m rfl tf_77_0 rfl ⟨rfl, rfl⟩) ?_) | (refine EOps.d 61 (none) (i := 5) rfl rfl rfl rfl rfl (op_fieldAddr_c rfl tf_77_0 rfl rfl ⟨rfl, rfl⟩) ?_)
        first | (refine EOps.d 62 (some 0) (i := 6) rfl rfl rfl rfl rfl (op_load_m1 (i := 0) rfl ta_34 rfl rfl rfl ⟨rfl, rfl⟩) ?_) | (refine EOps.d 62 (some 1) (i := 6) rfl rfl rfl rfl rfl (op_load_m1 (i := 0) rfl ta_34 rfl rfl rfl ⟨rfl, rfl⟩) ?_) | (refine EOps.d 62 (some 2) (i := 6) rfl rfl rfl rfl rfl (op_load_m1 (i := 0) rfl ta_34 rfl rfl rfl ⟨rfl, rfl⟩) ?_) | (refine EOps.d 62 (some 3) (i := 6) rfl rfl rfl rfl rfl (op_load_m1 (i := 0) rfl ta_34 rfl rfl rfl ⟨rfl, rfl⟩) ?_) | (refine EOps.d 62 (some 4) (i := 6) rfl rfl rfl rfl rfl (op_load_m1 (i := 0) rfl ta_34 rfl rfl rfl ⟨rfl, rfl⟩) ?_) | (refine EOps.d 62 (some 5) (i := 6) rfl rfl rfl rfl rfl (op_load_m1 (i := 0) rfl ta_34 rfl rfl rfl ⟨rfl, rfl⟩) ?_) | (refine EOps.d 62 (some 6) (i := 6) rfl rfl rfl rfl rfl (op_load_m1 (i := 0) rfl ta_34 rfl rfl rfl ⟨rfl, rfl⟩) ?_) | (refine EOps.d 62 (some 7) (i := 6) rfl rfl rfl rfl rfl (op_load_m1 (i := 0) rfl ta_34 rfl rfl rfl ⟨rfl, rfl⟩) ?_) | (refine EOps.d 62 (some 8) (i := 6) rfl rfl rfl rfl rfl (op_load_m1 (i := 0) rfl ta_34 rfl rfl rfl ⟨rfl, rfl⟩) ?_) | (refine EOps.d 62 (some 9) (i := 6) rfl rfl rfl rfl rfl (op_load_m1 (i := 0) rfl ta_34 rfl rfl rfl ⟨rfl, rfl⟩) ?_) | (refine EOps.d 62 (none) (i := 6) rfl rfl rfl rfl rfl (op_load_c1 rfl ta_34 rfl rfl ⟨rfl, rfl⟩) ?_)
        refine EOps.d 63 (none) (i := 7) rfl rfl rfl rfl rfl (op_move rfl rfl ⟨rfl, rfl⟩) ?_
        refine EOps.d 64 (some 1) (i := 8) rfl rfl rfl rfl rfl (op_index_row (i := 0) (k := a) rfl te_34 rfl rfl rfl (by first | rfl | omega) (by omega) ⟨rfl, rfl⟩) ?_
        refine EOps.d 65 (some 1) (i := 9) rfl rfl rfl rfl rfl (op_load_row1 (i := 0) (k := a) (f := 0) rfl ta_42 rfl rfl rfl (hx2) rfl ⟨rfl, rfl⟩) ?_
        refine EOps.d 66 (none) (i := 10) rfl rfl rfl rfl rfl (op_fieldAddr_c rfl tf_90_0 rfl rfl ⟨rfl, rfl⟩) ?_
        first | (refine EOps.d 67 (some 0) (i := 11) rfl rfl rfl rfl rfl (op_load_m1 (i := 0) rfl ta_87 rfl rfl rfl ⟨rfl, rfl⟩) ?_) | (refine EOps.d 67 (some 1) (i := 11) rfl rfl rfl rfl rfl (op_load_m1 (i := 0) rfl ta_87 rfl rfl rfl ⟨rfl, rfl⟩) ?_) | (refine EOps.d 67 (some 2) (i := 11) rfl rfl rfl rfl rfl (op_load_m1 (i := 0) rfl ta_87 rfl rfl rfl ⟨rfl, rfl⟩) ?_) | (refine EOps.d 67 (some 3) (i := 11) rfl rfl rfl rfl rfl (op_load_m1 (i := 0) rfl ta_87 rfl rfl rfl ⟨rfl, rfl⟩) ?_) | (refine EOps.d 67 (some 4) (i := 11) rfl rfl rfl rfl rfl (op_load_m1 (i := 0) rfl ta_87 rfl rfl rfl ⟨rfl, rfl⟩) ?_) | (refine EOps.d 67 (some 5) (i := 11) rfl rfl rfl rfl rfl (op_load_m1 (i := 0) rfl ta_87 rfl rfl rfl ⟨rfl, rfl⟩) ?_) | (refine EOps.d 67 (some 6) (i := 11) rfl rfl rfl rfl rfl (op_load_m1 (i := 0) rfl ta_87 rfl rfl rfl ⟨rfl, rfl⟩) ?_) | (refine EOps.d 67 (some 7) (i := 11) rfl rfl rfl rfl rfl (op_load_m1 (i := 0) rfl ta_87 rfl rfl rfl ⟨rfl, rfl⟩) ?_) | (refine EOps.d 67 (some 8) (i := 11) rfl rfl rfl rfl rfl (op_load_m1 (i := 0) rfl ta_87 rfl rfl rfl ⟨rfl, rfl⟩) ?_) | (refine EOps.d 67 (some 9) (i := 11) rfl rfl rfl rfl rfl (op_load_m1 (i := 0) rfl ta_87 rfl rfl rfl ⟨rfl, rfl⟩) ?_) | (refine EOps.d 67 (none) (i := 11) rfl rfl rfl rfl rfl (op_load_c1 rfl ta_87 rfl rfl ⟨rfl, rfl⟩) ?_)
        first | (refine EOps.d 68 (none) (i := 12) rfl rfl rfl rfl rfl (op_nilCheck_m rfl rfl ⟨rfl, rfl⟩) ?_) | (refine EOps.d 68 (none) (i := 12) rfl rfl rfl rfl rfl (op_nilCheck_c rfl rfl ⟨rfl, rfl⟩) ?_) | (refine EOps.d 68 (none) (i := 12) rfl rfl rfl rfl rfl (op_nilCheck_f rfl rfl ⟨rfl, rfl⟩) ?_)
        first | (refine EOps.d 69 (none) (i := 13) rfl rfl rfl rfl rfl (op_fieldAddr_m rfl tf_77_0 rfl ⟨rfl, rfl⟩) ?_) | (refine EOps.d 69 (none) (i := 13) rfl rfl rfl rfl rfl (op_fieldAddr_c rfl tf_77_0 rfl rfl ⟨rfl, rfl⟩) ?_)
        first | (refine EOps.d 70 (some 0) (i := 14) rfl rfl rfl rfl rfl (op_load_m1 (i := 0) rfl ta_34 rfl rfl rfl ⟨rfl, rfl⟩) ?_) | (refine EOps.d 70 (some 1) (i := 14) rfl rfl rfl rfl rfl (op_load_m1 (i := 0) rfl ta_34 rfl rfl rfl ⟨rfl, rfl⟩) ?_) | (refine EOps.d 70 (some 2) (i := 14) rfl rfl rfl rfl rfl (op_load_m1 (i := 0) rfl ta_34 rfl rfl rfl ⟨rfl, rfl⟩) ?_) | (refine EOps.d 70 (some 3) (i := 14) rfl rfl rfl rfl rfl (op_load_m1 (i := 0) rfl ta_34 rfl rfl rfl ⟨rfl, rfl⟩) ?_) | (refine EOps.d 70 (some 4) (i := 14) rfl rfl rfl rfl rfl (op_load_m1 (i := 0) rfl ta_34 rfl rfl rfl ⟨rfl, rfl⟩) ?_) | (refine EOps.d 70 (some 5) (i := 14) rfl rfl rfl rfl rfl (op_load_m1 (i := 0) rfl ta_34 rfl rfl rfl ⟨rfl, rfl⟩) ?_) | (refine EOps.d 70 (some 6) (i := 14) rfl rfl rfl rfl rfl (op_load_m1 (i := 0) rfl ta_34 rfl rfl rfl ⟨rfl, rfl⟩) ?_) | (refine EOps.d 70 (some 7) (i := 14) rfl rfl rfl rfl rfl (op_load_m1 (i := 0) rfl ta_34 rfl rfl rfl ⟨rfl, rfl⟩) ?_) | (refine EOps.d 70 (some 8) (i := 14) rfl rfl rfl rfl rfl (op_load_m1 (i := 0) rfl ta_34 rfl rfl rfl ⟨rfl, rfl⟩) ?_) | (refine EOps.d 70 (some 9) (i := 14) rfl rfl rfl rfl rfl (op_load_m1 (i := 0) rfl ta_34 rfl rfl rfl ⟨rfl, rfl⟩) ?_) | (refine EOps.d 70 (none) (i := 14) rfl rfl rfl rfl rfl (op_load_c1 rfl ta_34 rfl rfl ⟨rfl, rfl⟩) ?_)
        refine EOps.d 71 (none) (i := 15) rfl rfl rfl rfl rfl (op_move rfl rfl ⟨rfl, rfl⟩) ?_
        first | (refine EOps.d 72 (none) (i := 16) rfl rfl rfl rfl rfl (op_add rfl rfl rfl (IntWalk.i64_in _ (by omega)) ⟨rfl, rfl⟩) ?_) | (refine EOps.d 72 (none) (i := 16) rfl rfl rfl rfl rfl (op_add rfl rfl rfl rfl ⟨rfl, rfl⟩) ?_)
        refine EOps.d 73 (none) (i := 17) rfl rfl rfl rfl rfl (op_move rfl rfl ⟨rfl, rfl⟩) ?_
        first | (refine EOps.d 74 (none) (i := 18) rfl rfl rfl rfl rfl (op_add rfl rfl rfl (IntWalk.i64_in _ (by omega)) ⟨rfl, rfl⟩) ?_) | (refine EOps.d 74 (none) (i := 18) rfl rfl rfl rfl rfl (op_add rfl rfl rfl rfl ⟨rfl, rfl⟩) ?_)
        refine EOps.d 75 (none) (i := 19) rfl rfl rfl rfl rfl (op_move rfl rfl ⟨rfl, rfl⟩) ?_
        first | (refine EOps.d 76 (none) (i := 20) rfl rfl rfl rfl rfl (op_add rfl rfl rfl (IntWalk.i64_in _ (by omega)) ⟨rfl, rfl⟩) ?_) | (refine EOps.d 76 (none) (i := 20) rfl rfl rfl rfl rfl (op_add rfl rfl rfl rfl ⟨rfl, rfl⟩) ?_)
        refine EOps.d 77 (some 1) (i := 21) rfl rfl rfl rfl rfl (op_cut_row (i := 0) (l := a + 1) (k := a + 1 + pn) rfl te_34 rfl rfl rfl rfl (by first | rfl | omega) (by first | rfl | omega) (by omega) (by omega) ⟨rfl, rfl⟩) ?_
        refine EOps.wh (i := 22) rfl rfl rfl rfl (op_callat [0,2,2,0] (xs := [.tmp 57, .tmp 65, .tmp 77])  rfl rfl rfl (hp2 _ _ _ (fcw - (a + 1))) (by first | exact Les.refl _ | (repeat' (first | exact Les.refl _ | refine Les.cons ?_ ?_ | exact Le.refl _ | (refine Le.sle ?_ ?_ <;> first | rfl | omega) | exact Le.own _ _ _ | exact Le.nil _))) ?_)
        rintro v1 M1 ⟨rfl, g1, c1, g2, c2, rfl⟩
        refine EOps.d 79 (none) (i := 23) rfl rfl rfl rfl rfl (op_callp (xs := [.tmp 78]) rfl rfl (hPtr) (by first | exact Les.refl _ | (repeat' (first | exact Les.refl _ | refine Les.cons ?_ ?_ | exact Le.refl _ | exact Le.own _ _ _ | exact Le.nil _ | refine Le.agg ?_))) ⟨rfl, rfl⟩) ?_
        refine EOps.d 55 (none) (i := 24) rfl rfl rfl rfl rfl (op_move rfl rfl ⟨rfl, rfl⟩) ?_
        refine EOps.d 80 (none) (i := 25) rfl rfl rfl rfl rfl (op_extract rfl rfl rfl ⟨rfl, rfl⟩) ?_
        refine EOps.d 81 (none) (i := 26) rfl rfl rfl rfl rfl (op_extract rfl rfl rfl ⟨rfl, rfl⟩) ?_
        refine EOps.d 11 (none) (i := 27) rfl rfl rfl rfl rfl (op_assign rfl rfl ⟨rfl, rfl⟩) ?_
        refine EOps.d 12 (none) (i := 28) rfl rfl rfl rfl rfl (op_assign rfl rfl ⟨rfl, rfl⟩) ?_
        show AGo _ _ _ _ _ _ _
        refine go_code ?_
        refine c_seq ?_
        refine c_region ?_
        refine AOps.st 82 rfl rfl rfl (op_fieldAddr_c rfl tf_90_0 rfl rfl ?_)
        refine AOps.st 83 rfl rfl rfl (op_load_c1 rfl ta_87 rfl rfl ?_)
        first | (refine AOps.st 84 rfl rfl rfl (op_nilCheck_m rfl rfl ?_)) | (refine AOps.st 84 rfl rfl rfl (op_nilCheck_c rfl rfl ?_)) | (refine AOps.st 84 rfl rfl rfl (op_nilCheck_f rfl rfl ?_))
        first | (refine AOps.st 85 rfl rfl rfl (op_fieldAddr_m rfl tf_77_0 rfl ?_)) | (refine AOps.st 85 rfl rfl rfl (op_fieldAddr_c rfl tf_77_0 rfl rfl ?_))
        first | (refine AOps.st 86 rfl rfl rfl (op_load_m1 (i := 0) rfl ta_34 rfl rfl rfl ?_)) | (refine AOps.st 86 rfl rfl rfl (op_load_m1 (i := 1) rfl ta_34 rfl rfl rfl ?_)) | (refine AOps.st 86 rfl rfl rfl (op_load_m1 (i := 2) rfl ta_34 rfl rfl rfl ?_)) | (refine AOps.st 86 rfl rfl rfl (op_load_m1 (i := 3) rfl ta_34 rfl rfl rfl ?_)) | (refine AOps.st 86 rfl rfl rfl (op_load_m1 (i := 4) rfl ta_34 rfl rfl rfl ?_)) | (refine AOps.st 86 rfl rfl rfl (op_load_m1 (i := 5) rfl ta_34 rfl rfl rfl ?_)) | (refine AOps.st 86 rfl rfl rfl (op_load_m1 (i := 6) rfl ta_34 rfl rfl rfl ?_)) | (refine AOps.st 86 rfl rfl rfl (op_load_m1 (i := 7) rfl ta_34 rfl rfl rfl ?_)) | (refine AOps.st 86 rfl rfl rfl (op_load_m1 (i := 8) rfl ta_34 rfl rfl rfl ?_)) | (refine AOps.st 86 rfl rfl rfl (op_load_m1 (i := 9) rfl ta_34 rfl rfl rfl ?_)) | (refine AOps.st 86 rfl rfl rfl (op_load_c1 rfl ta_34 rfl rfl ?_))
        refine AOps.st 87 rfl rfl rfl (op_move rfl rfl ?_)
        refine AOps.st 88 rfl rfl rfl (op_move rfl rfl ?_)
        refine AOps.st 89 rfl rfl rfl (op_index_row (i := 3) (k := a) rfl te_34 rfl rfl rfl (by first | rfl | omega) (by omega) ?_)
        refine AOps.st0 rfl rfl (op_store_rowp (i := 3) (k := a) rfl ts_42 rfl rfl rfl rfl rfl rfl (by omega) ?_)
        refine AOps.nil ?_
        refine go_code ?_
        refine c_seq ?_
        refine c_region ?_
        refine AOps.st 90 rfl rfl rfl (op_move rfl rfl ?_)
        refine AOps.st 4 rfl rfl rfl (op_assign rfl rfl ?_)
        refine AOps.nil ?_
        refine go_code ?_
        refine ACode.perm (pick_perm (is := [0, 2, 2, 0, 0]) rfl) ?_
        refine c_ret ?_
        exact out_tmp rfl rfl (Le.refl _) (by first | exact MLe.none _ | exact MLe.refl _ | (repeat' (first | exact MLe.nil | exact MLe.refl _ | refine MLe.cons _ ?_ | refine MLe.drop _ ?_))) ⟨rfl, g1, c1, g2, c2, rfl⟩
      · refine c_cond_t rfl ?_
        refine c_seq ?_
        exact absurd h32 (by simp)
    · refine c_cond_t rfl ?_
      refine c_seq ?_
      exact absurd h21 (by simp)
  · simp only [spc, if_true] at hA hp1 hp2 ⊢
    refine ACall.enter Try.func46 rfl (by kernel_rfl) rfl (Nat.le_of_ble_eq_true rfl) ?_
    refine c_start ?_
    refine c_seq ?_
    refine c_region ?_
    refine AOps.st 2 rfl rfl rfl (op_boxc (cs' := [_, _]) rfl rfl rfl rfl ?_)
    refine AOps.st 4 rfl rfl rfl (op_assign rfl rfl ?_)
    refine AOps.nil ?_
    refine go_code ?_
    refine c_seq ?_
    refine c_region ?_
    refine AOps.st 14 rfl rfl rfl (op_fieldAddr_c rfl tf_90_0 rfl rfl ?_)
    refine AOps.st 15 rfl rfl rfl (op_load_c1 rfl ta_87 rfl rfl ?_)
    refine AOps.st 16 rfl rfl rfl (op_move rfl rfl ?_)
    refine AOps.st 17 rfl rfl rfl (op_callk (xs := [.tmp 15, .tmp 16]) [0,0,0] rfl rfl rfl (hA _ _ _) (by first | exact Les.refl _ | (repeat' (first | exact Les.refl _ | refine Les.cons ?_ ?_ | exact Le.refl _ | exact Le.own _ _ _ | exact Le.nil _ | refine Le.agg ?_))) ?_)
    refine AOps.st 13 rfl rfl rfl (op_move rfl rfl ?_)
    refine AOps.st 18 rfl rfl rfl (op_extract rfl rfl rfl ?_)
    refine AOps.st 19 rfl rfl rfl (op_extract rfl rfl rfl ?_)
    refine AOps.st 5 rfl rfl rfl (op_assign rfl rfl ?_)
    refine AOps.st 6 rfl rfl rfl (op_assign rfl rfl ?_)
    refine AOps.nil ?_
    refine go_code ?_
    refine c_seq ?_
    refine c_seq ?_
    refine c_region ?_
    refine AOps.st 20 rfl rfl rfl (op_move rfl rfl ?_)
    refine AOps.st 21 rfl rfl rfl (op_notc rfl rfl ?_); intro c21 h21
    try replace h21 := nott h21 h19
    refine AOps.nil ?_
    refine go_code ?_
    rcases bool_split h21 with ⟨rfl, g21⟩ | ⟨rfl, g21⟩
    · refine c_cond_f rfl ?_
      refine c_skip ?_
      refine go_code ?_
      refine c_seq ?_
      refine c_seq ?_
      refine c_region ?_
      refine AOps.st 23 rfl rfl rfl (op_fieldAddr_c rfl tf_90_0 rfl rfl ?_)
      refine AOps.st 24 rfl rfl rfl (op_load_c1 rfl ta_87 rfl rfl ?_)
      first | (refine AOps.st 25 rfl rfl rfl (op_nilCheck_m rfl rfl ?_)) | (refine AOps.st 25 rfl rfl rfl (op_nilCheck_c rfl rfl ?_)) | (refine AOps.st 25 rfl rfl rfl (op_nilCheck_f rfl rfl ?_))
      first | (refine AOps.st 26 rfl rfl rfl (op_fieldAddr_m rfl tf_77_0 rfl ?_)) | (refine AOps.st 26 rfl rfl rfl (op_fieldAddr_c rfl tf_77_0 rfl rfl ?_))
      first | (refine AOps.st 27 rfl rfl rfl (op_load_m1 (i := 0) rfl ta_34 rfl rfl rfl ?_)) | (refine AOps.st 27 rfl rfl rfl (op_load_m1 (i := 1) rfl ta_34 rfl rfl rfl ?_)) | (refine AOps.st 27 rfl rfl rfl (op_load_m1 (i := 2) rfl ta_34 rfl rfl rfl ?_)) | (refine AOps.st 27 rfl rfl rfl (op_load_m1 (i := 3) rfl ta_34 rfl rfl rfl ?_)) | (refine AOps.st 27 rfl rfl rfl (op_load_m1 (i := 4) rfl ta_34 rfl rfl rfl ?_)) | (refine AOps.st 27 rfl rfl rfl (op_load_m1 (i := 5) rfl ta_34 rfl rfl rfl ?_)) | (refine AOps.st 27 rfl rfl rfl (op_load_m1 (i := 6) rfl ta_34 rfl rfl rfl ?_)) | (refine AOps.st 27 rfl rfl rfl (op_load_m1 (i := 7) rfl ta_34 rfl rfl rfl ?_)) | (refine AOps.st 27 rfl rfl rfl (op_load_m1 (i := 8) rfl ta_34 rfl rfl rfl ?_)) | (refine AOps.st 27 rfl rfl rfl (op_load_m1 (i := 9) rfl ta_34 rfl rfl rfl ?_)) | (refine AOps.st 27 rfl rfl rfl (op_load_c1 rfl ta_34 rfl rfl ?_))
      refine AOps.st 28 rfl rfl rfl (op_move rfl rfl ?_)
      refine AOps.st 29 rfl rfl rfl (op_index_row (i := 1) (k := a) rfl te_34 rfl rfl rfl (by first | rfl | omega) (by omega) ?_)
      refine AOps.st 30 rfl rfl rfl (op_load_row1 (i := 1) (k := a) (f := 0) rfl ta_42 rfl rfl rfl (hx2) rfl ?_)
      refine AOps.st 31 rfl rfl rfl (op_callp (xs := [.tmp 30]) rfl rfl (hI) (by first | exact Les.refl _ | (repeat' (first | exact Les.refl _ | refine Les.cons ?_ ?_ | exact Le.refl _ | exact Le.own _ _ _ | exact Le.nil _ | refine Le.agg ?_))) ?_)
      refine AOps.st 32 rfl rfl rfl (op_notc rfl rfl ?_); intro c32 h32
      try replace h32 := nott h32 h31
      refine AOps.nil ?_
      refine go_code ?_
      rcases bool_split h32 with ⟨rfl, g32⟩ | ⟨rfl, g32⟩
      · refine c_cond_f rfl ?_
        refine c_skip ?_
        refine go_code ?_
        refine c_seq ?_
        refine c_region ?_
        refine AOps.st 42 rfl rfl rfl (op_fieldAddr_c rfl tf_90_0 rfl rfl ?_)
        refine AOps.st 43 rfl rfl rfl (op_load_c1 rfl ta_87 rfl rfl ?_)
        first | (refine AOps.st 44 rfl rfl rfl (op_nilCheck_m rfl rfl ?_)) | (refine AOps.st 44 rfl rfl rfl (op_nilCheck_c rfl rfl ?_)) | (refine AOps.st 44 rfl rfl rfl (op_nilCheck_f rfl rfl ?_))
        first | (refine AOps.st 45 rfl rfl rfl (op_fieldAddr_m rfl tf_77_0 rfl ?_)) | (refine AOps.st 45 rfl rfl rfl (op_fieldAddr_c rfl tf_77_0 rfl rfl ?_))
        first | (refine AOps.st 46 rfl rfl rfl (op_load_m1 (i := 0) rfl ta_34 rfl rfl rfl ?_)) | (refine AOps.st 46 rfl rfl rfl (op_load_m1 (i := 1) rfl ta_34 rfl rfl rfl ?_)) | (refine AOps.st 46 rfl rfl rfl (op_load_m1 (i := 2) rfl ta_34 rfl rfl rfl ?_)) | (refine AOps.st 46 rfl rfl rfl (op_load_m1 (i := 3) rfl ta_34 rfl rfl rfl ?_)) | (refine AOps.st 46 rfl rfl rfl (op_load_m1 (i := 4) rfl ta_34 rfl rfl rfl ?_)) | (refine AOps.st 46 rfl rfl rfl (op_load_m1 (i := 5) rfl ta_34 rfl rfl rfl ?_)) | (refine AOps.st 46 rfl rfl rfl (op_load_m1 (i := 6) rfl ta_34 rfl rfl rfl ?_)) | (refine AOps.st 46 rfl rfl rfl (op_load_m1 (i := 7) rfl ta_34 rfl rfl rfl ?_)) | (refine AOps.st 46 rfl rfl rfl (op_load_m1 (i := 8) rfl ta_34 rfl rfl rfl ?_)) | (refine AOps.st 46 rfl rfl rfl (op_load_m1 (i := 9) rfl ta_34 rfl rfl rfl ?_)) | (refine AOps.st 46 rfl rfl rfl (op_load_c1 rfl ta_34 rfl rfl ?_))
        refine AOps.st 47 rfl rfl rfl (op_move rfl rfl ?_)
        refine AOps.st 48 rfl rfl rfl (op_index_row (i := 1) (k := a) rfl te_34 rfl rfl rfl (by first | rfl | omega) (by omega) ?_)
        refine AOps.st 49 rfl rfl rfl (op_load_row1 (i := 1) (k := a) (f := 0) rfl ta_42 rfl rfl rfl (hx2) rfl ?_)
        refine AOps.st 50 rfl rfl rfl (op_callp (xs := [.tmp 49]) rfl rfl (hO) (by first | exact Les.refl _ | (repeat' (first | exact Les.refl _ | refine Les.cons ?_ ?_ | exact Le.refl _ | exact Le.own _ _ _ | exact Le.nil _ | refine Le.agg ?_))) ?_)
        refine AOps.st 41 rfl rfl rfl (op_move rfl rfl ?_)
        refine AOps.st 51 rfl rfl rfl (op_extract rfl rfl rfl ?_)
        refine AOps.st 52 rfl rfl rfl (op_extract rfl rfl rfl ?_)
        refine AOps.st 53 rfl rfl rfl (op_extract rfl rfl rfl ?_)
        refine AOps.st 54 rfl rfl rfl (op_extract rfl rfl rfl ?_)
        refine AOps.st 7 rfl rfl rfl (op_assign rfl rfl ?_)
        refine AOps.st 8 rfl rfl rfl (op_assign rfl rfl ?_)
        refine AOps.st 9 rfl rfl rfl (op_assign rfl rfl ?_)
        refine AOps.st 10 rfl rfl rfl (op_assign rfl rfl ?_)
        refine AOps.nil ?_
        refine go_code ?_
        refine c_seq ?_
        refine c_drawnE [0, 1, 2, 3, 4, 5, 6, 7, 8, 9, 10, 11, 12, 13, 14, 15, 16, 17, 18, 19, 20, 21, 22, 23, 24, 25, 26, 27, 28] [22] [[], [0], [], [2], [2, 3], [2, 3, 4], [2, 3, 4, 5], [], [2, 3, 4, 5, 6, 7], [2, 3, 4, 5, 6, 7, 8], [], [10], [10, 11], [10, 11, 12], [10, 11, 12, 13], [], [15], [], [17], [], [17, 18, 19], [10, 11, 12, 13, 14, 15, 16, 17, 18, 19, 20], [0, 1, 2, 3, 4, 5, 6, 7, 8, 9, 10, 11, 12, 13, 14, 15, 16, 17, 18, 19, 20, 21], [0, 1, 2, 3, 4, 5, 6, 7, 8, 9, 10, 11, 12, 13, 14, 15, 16, 17, 18, 19, 20, 21, 22], [0, 1, 2, 3, 4, 5, 6, 7, 8, 9, 10, 11, 12, 13, 14, 15, 16, 17, 18, 19, 20, 21, 22, 23], [0, 1, 2, 3, 4, 5, 6, 7, 8, 9, 10, 11, 12, 13, 14, 15, 16, 17, 18, 19, 20, 21, 22, 23, 24], [0, 1, 2, 3, 4, 5, 6, 7, 8, 9, 10, 11, 12, 13, 14, 15, 16, 17, 18, 19, 20, 21, 22, 23, 24], [0, 1, 2, 3, 4, 5, 6, 7, 8, 9, 10, 11, 12, 13, 14, 15, 16, 17, 18, 19, 20, 21, 22, 23, 24, 25], [0, 1, 2, 3, 4, 5, 6, 7, 8, 9, 10, 11, 12, 13, 14, 15, 16, 17, 18, 19, 20, 21, 22, 23, 24, 25, 26, 27]] tmix rfl ?_
        refine EOps.d 56 (none) (i := 0) rfl rfl rfl rfl rfl (op_fieldAddr_c rfl tf_90_1 rfl rfl ⟨rfl, rfl⟩) ?_
        first | (refine EOps.d 57 (some 0) (i := 1) rfl rfl rfl rfl rfl (op_load_m1 (i := 0) rfl ta_87 rfl rfl rfl ⟨rfl, rfl⟩) ?_) | (refine EOps.d 57 (some 1) (i := 1) rfl rfl rfl rfl rfl (op_load_m1 (i := 0) rfl ta_87 rfl rfl rfl ⟨rfl, rfl⟩) ?_) | (refine EOps.d 57 (some 2) (i := 1) rfl rfl rfl rfl rfl (op_load_m1 (i := 0) rfl ta_87 rfl rfl rfl ⟨rfl, rfl⟩) ?_) | (refine EOps.d 57 (some 3) (i := 1) rfl rfl rfl rfl rfl (op_load_m1 (i := 0) rfl ta_87 rfl rfl rfl ⟨rfl, rfl⟩) ?_) | (refine EOps.d 57 (some 4) (i := 1) rfl rfl rfl rfl rfl (op_load_m1 (i := 0) rfl ta_87 rfl rfl rfl ⟨rfl, rfl⟩) ?_) | (refine EOps.d 57 (some 5) (i := 1) rfl rfl rfl rfl rfl (op_load_m1 (i := 0) rfl ta_87 rfl rfl rfl ⟨rfl, rfl⟩) ?_) | (refine EOps.d 57 (some 6) (i := 1) rfl rfl rfl rfl rfl (op_load_m1 (i := 0) rfl ta_87 rfl rfl rfl ⟨rfl, rfl⟩) ?_) | (refine EOps.d 57 (some 7) (i := 1) rfl rfl rfl rfl rfl (op_load_m1 (i := 0) rfl ta_87 rfl rfl rfl ⟨rfl, rfl⟩) ?_) | (refine EOps.d 57 (some 8) (i := 1) rfl rfl rfl rfl rfl (op_load_m1 (i := 0) rfl ta_87 rfl rfl rfl ⟨rfl, rfl⟩) ?_) | (refine EOps.d 57 (some 9) (i := 1) rfl rfl rfl rfl rfl (op_load_m1 (i := 0) rfl ta_87 rfl rfl rfl ⟨rfl, rfl⟩) ?_) | (refine EOps.d 57 (none) (i := 1) rfl rfl rfl rfl rfl (op_load_c1 rfl ta_87 rfl rfl ⟨rfl, rfl⟩) ?_)
        refine EOps.d 58 (none) (i := 2) rfl rfl rfl rfl rfl (op_fieldAddr_c rfl tf_90_0 rfl rfl ⟨rfl, rfl⟩) ?_
        first | (refine EOps.d 59 (some 0) (i := 3) rfl rfl rfl rfl rfl (op_load_m1 (i := 0) rfl ta_87 rfl rfl rfl ⟨rfl, rfl⟩) ?_) | (refine EOps.d 59 (some 1) (i := 3) rfl rfl rfl rfl rfl (op_load_m1 (i := 0) rfl ta_87 rfl rfl rfl ⟨rfl, rfl⟩) ?_) | (refine EOps.d 59 (some 2) (i := 3) rfl rfl rfl rfl rfl (op_load_m1 (i := 0) rfl ta_87 rfl rfl rfl ⟨rfl, rfl⟩) ?_) | (refine EOps.d 59 (some 3) (i := 3) rfl rfl rfl rfl rfl (op_load_m1 (i := 0) rfl ta_87 rfl rfl rfl ⟨rfl, rfl⟩) ?_) | (refine EOps.d 59 (some 4) (i := 3) rfl rfl rfl rfl rfl (op_load_m1 (i := 0) rfl ta_87 rfl rfl rfl ⟨rfl, rfl⟩) ?_) | (refine EOps.d 59 (some 5) (i := 3) rfl rfl rfl rfl rfl (op_load_m1 (i := 0) rfl ta_87 rfl rfl rfl ⟨rfl, rfl⟩) ?_) | (refine EOps.d 59 (some 6) (i := 3) rfl rfl rfl rfl rfl (op_load_m1 (i := 0) rfl ta_87 rfl rfl rfl ⟨rfl, rfl⟩) ?_) | (refine EOps.d 59 (some 7) (i := 3) rfl rfl rfl rfl rfl (op_load_m1 (i := 0) rfl ta_87 rfl rfl rfl ⟨rfl, rfl⟩) ?_) | (refine EOps.d 59 (some 8) (i := 3) rfl rfl rfl rfl rfl (op_load_m1 (i := 0) rfl ta_87 rfl rfl rfl ⟨rfl, rfl⟩) ?_) | (refine EOps.d 59 (some 9) (i := 3) rfl rfl rfl rfl rfl (op_load_m1 (i := 0) rfl ta_87 rfl rfl rfl ⟨rfl, rfl⟩) ?_) | (refine EOps.d 59 (none) (i := 3) rfl rfl rfl rfl rfl (op_load_c1 rfl ta_87 rfl rfl ⟨rfl, rfl⟩) ?_)
        first | (refine EOps.d 60 (none) (i := 4) rfl rfl rfl rfl rfl (op_nilCheck_m rfl rfl ⟨rfl, rfl⟩) ?_) | (refine EOps.d 60 (none) (i := 4) rfl rfl rfl rfl rfl (op_nilCheck_c rfl rfl ⟨rfl, rfl⟩) ?_) | (refine EOps.d 60 (none) (i := 4) rfl rfl rfl rfl rfl (op_nilCheck_f rfl rfl ⟨rfl, rfl⟩) ?_)
        first | (refine EOps.d 61 (none) (i := 5) rfl rfl rfl rfl rfl (op_fieldAddr_m rfl tf_77_0 rfl ⟨rfl, rfl⟩) ?_) | (refine EOps.d 61 (none) (i := 5) rfl rfl rfl rfl rfl (op_fieldAddr_c rfl tf_77_0 rfl rfl ⟨rfl, rfl⟩) ?_)
        first | (refine EOps.d 62 (some 0) (i := 6) rfl rfl rfl rfl rfl (op_load_m1 (i := 0) rfl ta_34 rfl rfl rfl ⟨rfl, rfl⟩) ?_) | (refine EOps.d 62 (some 1) (i := 6) rfl rfl rfl rfl rfl (op_load_m1 (i := 0) rfl ta_34 rfl rfl rfl ⟨rfl, rfl⟩) ?_) | (refine EOps.d 62 (some 2) (i := 6) rfl rfl rfl rfl rfl (op_load_m1 (i := 0) rfl ta_34 rfl rfl rfl ⟨rfl, rfl⟩) ?_) | (refine EOps.d 62 (some 3) (i := 6) rfl rfl rfl rfl rfl (op_load_m1 (i := 0) rfl ta_34 rfl rfl rfl ⟨rfl, rfl⟩) ?_) | (refine EOps.d 62 (some 4) (i := 6) rfl rfl rfl rfl rfl (op_load_m1 (i := 0) rfl ta_34 rfl rfl rfl ⟨rfl, rfl⟩) ?_) | (refine EOps.d 62 (some 5) (i := 6) rfl rfl rfl rfl rfl (op_load_m1 (i := 0) rfl ta_34 rfl rfl rfl ⟨rfl, rfl⟩) ?_) | (refine EOps.d 62 (some 6) (i := 6) rfl rfl rfl rfl rfl (op_load_m1 (i := 0) rfl ta_34 rfl rfl rfl ⟨rfl, rfl⟩) ?_) | (refine EOps.d 62 (some 7) (i := 6) rfl rfl rfl rfl rfl (op_load_m1 (i := 0) rfl ta_34 rfl rfl rfl ⟨rfl, rfl⟩) ?_) | (refine EOps.d 62 (some 8) (i := 6) rfl rfl rfl rfl rfl (op_load_m1 (i := 0) rfl ta_34 rfl rfl rfl ⟨rfl, rfl⟩) ?_) | (refine EOps.d 62 (some 9) (i := 6) rfl rfl rfl rfl rfl (op_load_m1 (i := 0) rfl ta_34 rfl rfl rfl ⟨rfl, rfl⟩) ?_) | (refine EOps.d 62 (none) (i := 6) rfl rfl rfl rfl rfl (op_load_c1 rfl ta_34 rfl rfl ⟨rfl, rfl⟩) ?_)
        refine EOps.d 63 (none) (i := 7) rfl rfl rfl rfl rfl (op_move rfl rfl ⟨rfl, rfl⟩) ?_
        refine EOps.d 64 (some 1) (i := 8) rfl rfl rfl rfl rfl (op_index_row (i := 0) (k := a) rfl te_34 rfl rfl rfl (by first | rfl | omega) (by omega) ⟨rfl, rfl⟩) ?_
        refine EOps.d 65 (some 1) (i := 9) rfl rfl rfl rfl rfl (op_load_row1 (i := 0) (k := a) (f := 0) rfl ta_42 rfl rfl rfl (hx2) rfl ⟨rfl, rfl⟩) ?_
        refine EOps.d 66 (none) (i := 10) rfl rfl rfl rfl rfl (op_fieldAddr_c rfl tf_90_0 rfl rfl ⟨rfl, rfl⟩) ?_
        first | (refine EOps.d 67 (some 0) (i := 11) rfl rfl rfl rfl rfl (op_load_m1 (i := 0) rfl ta_87 rfl rfl rfl ⟨rfl, rfl⟩) ?_) | (refine EOps.d 67 (some 1) (i := 11) rfl rfl rfl rfl rfl (op_load_m1 (i := 0) rfl ta_87 rfl rfl rfl ⟨rfl, rfl⟩) ?_) | (refine EOps.d 67 (some 2) (i := 11) rfl rfl rfl rfl rfl (op_load_m1 (i := 0) rfl ta_87 rfl rfl rfl ⟨rfl, rfl⟩) ?_) | (refine EOps.d 67 (some 3) (i := 11) rfl rfl rfl rfl rfl (op_load_m1 (i := 0) rfl ta_87 rfl rfl rfl ⟨rfl, rfl⟩) ?_) | (refine EOps.d 67 (some 4) (i := 11) rfl rfl rfl rfl rfl (op_load_m1 (i := 0) rfl ta_87 rfl rfl rfl ⟨rfl, rfl⟩) ?_) | (refine EOps.d 67 (some 5) (i := 11) rfl rfl rfl rfl rfl (op_load_m1 (i := 0) rfl ta_87 rfl rfl rfl ⟨rfl, rfl⟩) ?_) | (refine EOps.d 67 (some 6) (i := 11) rfl rfl rfl rfl rfl (op_load_m1 (i := 0) rfl ta_87 rfl rfl rfl ⟨rfl, rfl⟩) ?_) | (refine EOps.d 67 (some 7) (i := 11) rfl rfl rfl rfl rfl (op_load_m1 (i := 0) rfl ta_87 rfl rfl rfl ⟨rfl, rfl⟩) ?_) | (refine EOps.d 67 (some 8) (i := 11) rfl rfl rfl rfl rfl (op_load_m1 (i := 0) rfl ta_87 rfl rfl rfl ⟨rfl, rfl⟩) ?_) | (refine EOps.d 67 (some 9) (i := 11) rfl rfl rfl rfl rfl (op_load_m1 (i := 0) rfl ta_87 rfl rfl rfl ⟨rfl, rfl⟩) ?_) | (refine EOps.d 67 (none) (i := 11) rfl rfl rfl rfl rfl (op_load_c1 rfl ta_87 rfl rfl ⟨rfl, rfl⟩) ?_)
        first | (refine EOps.d 68 (none) (i := 12) rfl rfl rfl rfl rfl (op_nilCheck_m rfl rfl ⟨rfl, rfl⟩) ?_) | (refine EOps.d 68 (none) (i := 12) rfl rfl rfl rfl rfl (op_nilCheck_c rfl rfl ⟨rfl, rfl⟩) ?_) | (refine EOps.d 68 (none) (i := 12) rfl rfl rfl rfl rfl (op_nilCheck_f rfl rfl ⟨rfl, rfl⟩) ?_)
        first | (refine EOps.d 69 (none) (i := 13) rfl rfl rfl rfl rfl (op_fieldAddr_m rfl tf_77_0 rfl ⟨rfl, rfl⟩) ?_) | (refine EOps.d 69 (none) (i := 13) rfl rfl rfl rfl rfl (op_fieldAddr_c rfl tf_77_0 rfl rfl ⟨rfl, rfl⟩) ?_)
        first | (refine EOps.d 70 (some 0) (i := 14) rfl rfl rfl rfl rfl (op_load_m1 (i := 0) rfl ta_34 rfl rfl rfl ⟨rfl, rfl⟩) ?_) | (refine EOps.d 70 (some 1) (i := 14) rfl rfl rfl rfl rfl (op_load_m1 (i := 0) rfl ta_34 rfl rfl rfl ⟨rfl, rfl⟩) ?_) | (refine EOps.d 70 (some 2) (i := 14) rfl rfl rfl rfl rfl (op_load_m1 (i := 0) rfl ta_34 rfl rfl rfl ⟨rfl, rfl⟩) ?_) | (refine EOps.d 70 (some 3) (i := 14) rfl rfl rfl rfl rfl (op_load_m1 (i := 0) rfl ta_34 rfl rfl rfl ⟨rfl, rfl⟩) ?_) | (refine EOps.d 70 (some 4) (i := 14) rfl rfl rfl rfl rfl (op_load_m1 (i := 0) rfl ta_34 rfl rfl rfl ⟨rfl, rfl⟩) ?_) | (refine EOps.d 70 (some 5) (i := 14) rfl rfl rfl rfl rfl (op_load_m1 (i := 0) rfl ta_34 rfl rfl rfl ⟨rfl, rfl⟩) ?_) | (refine EOps.d 70 (some 6) (i := 14) rfl rfl rfl rfl rfl (op_load_m1 (i := 0) rfl ta_34 rfl rfl rfl ⟨rfl, rfl⟩) ?_) | (refine EOps.d 70 (some 7) (i := 14) rfl rfl rfl rfl rfl (op_load_m1 (i := 0) rfl ta_34 rfl rfl rfl ⟨rfl, rfl⟩) ?_) | (refine EOps.d 70 (some 8) (i := 14) rfl rfl rfl rfl rfl (op_load_m1 (i := 0) rfl ta_34 rfl rfl rfl ⟨rfl, rfl⟩) ?_) | (refine EOps.d 70 (some 9) (i := 14) rfl rfl rfl rfl rfl (op_load_m1 (i := 0) rfl ta_34 rfl rfl rfl ⟨rfl, rfl⟩) ?_) | (refine EOps.d 70 (none) (i := 14) rfl rfl rfl rfl rfl (op_load_c1 rfl ta_34 rfl rfl ⟨rfl, rfl⟩) ?_)
        refine EOps.d 71 (none) (i := 15) rfl rfl rfl rfl rfl (op_move rfl rfl ⟨rfl, rfl⟩) ?_
        first | (refine EOps.d 72 (none) (i := 16) rfl rfl rfl rfl rfl (op_add rfl rfl rfl (IntWalk.i64_in _ (by omega)) ⟨rfl, rfl⟩) ?_) | (refine EOps.d 72 (none) (i := 16) rfl rfl rfl rfl rfl (op_add rfl rfl rfl rfl ⟨rfl, rfl⟩) ?_)
        refine EOps.d 73 (none) (i := 17) rfl rfl rfl rfl rfl (op_move rfl rfl ⟨rfl, rfl⟩) ?_
        first | (refine EOps.d 74 (none) (i := 18) rfl rfl rfl rfl rfl (op_add rfl rfl rfl (IntWalk.i64_in _ (by omega)) ⟨rfl, rfl⟩) ?_) | (refine EOps.d 74 (none) (i := 18) rfl rfl rfl rfl rfl (op_add rfl rfl rfl rfl ⟨rfl, rfl⟩) ?_)
        refine EOps.d 75 (none) (i := 19) rfl rfl rfl rfl rfl (op_move rfl rfl ⟨rfl, rfl⟩) ?_
        first | (refine EOps.d 76 (none) (i := 20) rfl rfl rfl rfl rfl (op_add rfl rfl rfl (IntWalk.i64_in _ (by omega)) ⟨rfl, rfl⟩) ?_) | (refine EOps.d 76 (none) (i := 20) rfl rfl rfl rfl rfl (op_add rfl rfl rfl rfl ⟨rfl, rfl⟩) ?_)
        refine EOps.d 77 (some 1) (i := 21) rfl rfl rfl rfl rfl (op_cut_row (i := 0) (l := a + 1) (k := a + 1 + pn) rfl te_34 rfl rfl rfl rfl (by first | rfl | omega) (by first | rfl | omega) (by omega) (by omega) ⟨rfl, rfl⟩) ?_
        refine EOps.wh (i := 22) rfl rfl rfl rfl (op_callat [0,2,2,0] (xs := [.tmp 57, .tmp 65, .tmp 77])  rfl rfl rfl (hp1 _ _ _ (fcw - (a + 1))) (by first | exact Les.refl _ | (repeat' (first | exact Les.refl _ | refine Les.cons ?_ ?_ | exact Le.refl _ | (refine Le.sle ?_ ?_ <;> first | rfl | omega) | exact Le.own _ _ _ | exact Le.nil _))) ?_)
        rintro v1 M1 ⟨rfl, g1, c1, g2, c2, rfl⟩
        refine EOps.d 79 (none) (i := 23) rfl rfl rfl rfl rfl (op_callp (xs := [.tmp 78]) rfl rfl (hPtr) (by first | exact Les.refl _ | (repeat' (first | exact Les.refl _ | refine Les.cons ?_ ?_ | exact Le.refl _ | exact Le.own _ _ _ | exact Le.nil _ | refine Le.agg ?_))) ⟨rfl, rfl⟩) ?_
        refine EOps.d 55 (none) (i := 24) rfl rfl rfl rfl rfl (op_move rfl rfl ⟨rfl, rfl⟩) ?_
        refine EOps.d 80 (none) (i := 25) rfl rfl rfl rfl rfl (op_extract rfl rfl rfl ⟨rfl, rfl⟩) ?_
        refine EOps.d 81 (none) (i := 26) rfl rfl rfl rfl rfl (op_extract rfl rfl rfl ⟨rfl, rfl⟩) ?_
        refine EOps.d 11 (none) (i := 27) rfl rfl rfl rfl rfl (op_assign rfl rfl ⟨rfl, rfl⟩) ?_
        refine EOps.d 12 (none) (i := 28) rfl rfl rfl rfl rfl (op_assign rfl rfl ⟨rfl, rfl⟩) ?_
        show AGo _ _ _ _ _ _ _
        refine go_code ?_
        refine c_seq ?_
        refine c_region ?_
        refine AOps.st 82 rfl rfl rfl (op_fieldAddr_c rfl tf_90_0 rfl rfl ?_)
        refine AOps.st 83 rfl rfl rfl (op_load_c1 rfl ta_87 rfl rfl ?_)
        first | (refine AOps.st 84 rfl rfl rfl (op_nilCheck_m rfl rfl ?_)) | (refine AOps.st 84 rfl rfl rfl (op_nilCheck_c rfl rfl ?_)) | (refine AOps.st 84 rfl rfl rfl (op_nilCheck_f rfl rfl ?_))
        first | (refine AOps.st 85 rfl rfl rfl (op_fieldAddr_m rfl tf_77_0 rfl ?_)) | (refine AOps.st 85 rfl rfl rfl (op_fieldAddr_c rfl tf_77_0 rfl rfl ?_))
        first | (refine AOps.st 86 rfl rfl rfl (op_load_m1 (i := 0) rfl ta_34 rfl rfl rfl ?_)) | (refine AOps.st 86 rfl rfl rfl (op_load_m1 (i := 1) rfl ta_34 rfl rfl rfl ?_)) | (refine AOps.st 86 rfl rfl rfl (op_load_m1 (i := 2) rfl ta_34 rfl rfl rfl ?_)) | (refine AOps.st 86 rfl rfl rfl (op_load_m1 (i := 3) rfl ta_34 rfl rfl rfl ?_)) | (refine AOps.st 86 rfl rfl rfl (op_load_m1 (i := 4) rfl ta_34 rfl rfl rfl ?_)) | (refine AOps.st 86 rfl rfl rfl (op_load_m1 (i := 5) rfl ta_34 rfl rfl rfl ?_)) | (refine AOps.st 86 rfl rfl rfl (op_load_m1 (i := 6) rfl ta_34 rfl rfl rfl ?_)) | (refine AOps.st 86 rfl rfl rfl (op_load_m1 (i := 7) rfl ta_34 rfl rfl rfl ?_)) | (refine AOps.st 86 rfl rfl rfl (op_load_m1 (i := 8) rfl ta_34 rfl rfl rfl ?_)) | (refine AOps.st 86 rfl rfl rfl (op_load_m1 (i := 9) rfl ta_34 rfl rfl rfl ?_)) | (refine AOps.st 86 rfl rfl rfl (op_load_c1 rfl ta_34 rfl rfl ?_))
        refine AOps.st 87 rfl rfl rfl (op_move rfl rfl ?_)
        refine AOps.st 88 rfl rfl rfl (op_move rfl rfl ?_)
        refine AOps.st 89 rfl rfl rfl (op_index_row (i := 3) (k := a) rfl te_34 rfl rfl rfl (by first | rfl | omega) (by omega) ?_)
        refine AOps.st0 rfl rfl (op_store_rowp (i := 3) (k := a) rfl ts_42 rfl rfl rfl rfl rfl rfl (by omega) ?_)
        refine AOps.nil ?_
        refine go_code ?_
        refine c_seq ?_
        refine c_region ?_
        refine AOps.st 90 rfl rfl rfl (op_move rfl rfl ?_)
        refine AOps.st 4 rfl rfl rfl (op_assign rfl rfl ?_)
        refine AOps.nil ?_
        refine go_code ?_
        refine ACode.perm (pick_perm (is := [0, 2, 2, 0, 0]) rfl) ?_
        refine c_ret ?_
        exact out_tmp rfl rfl (Le.refl _) (by first | exact MLe.none _ | exact MLe.refl _ | (repeat' (first | exact MLe.nil | exact MLe.refl _ | refine MLe.cons _ ?_ | refine MLe.drop _ ?_))) ⟨rfl, g1, c1, g2, c2, rfl⟩
      · refine c_cond_t rfl ?_
        refine c_seq ?_
        exact absurd h32 (by simp)
    · refine c_cond_t rfl ?_
      refine c_seq ?_
      exact absurd h21 (by simp)
end Go.Proofs.Ytecpnlhjjmcllaa
