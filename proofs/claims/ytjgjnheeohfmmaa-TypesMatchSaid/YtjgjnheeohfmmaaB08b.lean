/- Args, Answer, All, Vars, Metas of the document; Args of the program -/
import Derived.Test.YtjgjnheeohfmmaaB08a
namespace Go.Proofs.Ytjgjnheeohfmmaa
open Go.RowKit
set_option maxRecDepth 100000 in
theorem rAnswer_c (d : Nat) : ∀ t : Ty, t.size ≤ d → PCall Try.prog 26 [.agg t.cells] (.agg t.ans.cells) := by
  induction d with
  | zero => intro t hd; have := Ty.size_pos t; omega
  | succ d ih =>
    rintro ⟨k, s, n, ks⟩ hd
    refine ACall.enter Try.func26 rfl (by kernel_rfl) rfl (Nat.le_of_ble_eq_true rfl) ?_
    refine c_start ?_
    refine c_seq ?_
    refine c_region ?_
    refine AOps.st 1 rfl rfl rfl (op_box rfl rfl rfl ?_); intro b1
    refine AOps.st 2 rfl rfl rfl (op_alloc rfl tz_24 rfl ?_); intro b2
    refine AOps.nil ?_
    refine go_code ?_
    refine c_seq ?_
    refine c_seq ?_
    refine c_region ?_
    first | (refine AOps.st 3 rfl rfl rfl (op_load_m (i := 0) rfl ta_24 rfl rfl rfl rfl ?_)) | (refine AOps.st 3 rfl rfl rfl (op_load_m (i := 1) rfl ta_24 rfl rfl rfl rfl ?_)) | (refine AOps.st 3 rfl rfl rfl (op_load_m (i := 2) rfl ta_24 rfl rfl rfl rfl ?_)) | (refine AOps.st 3 rfl rfl rfl (op_load_m (i := 3) rfl ta_24 rfl rfl rfl rfl ?_)) | (refine AOps.st 3 rfl rfl rfl (op_load_m (i := 4) rfl ta_24 rfl rfl rfl rfl ?_)) | (refine AOps.st 3 rfl rfl rfl (op_load_m (i := 5) rfl ta_24 rfl rfl rfl rfl ?_)) | (refine AOps.st 3 rfl rfl rfl (op_load_c rfl ta_24 rfl rfl rfl ?_))
    refine AOps.st 4 rfl rfl rfl (op_callb (xs := [.tmp 3]) rfl rfl (IsFun_c (.mk k s n ks)) (by first | exact Les.refl _ | (repeat' (first | exact Les.refl _ | refine Les.cons ?_ ?_ | exact Le.refl _ | exact Le.own _ _ _ | exact Le.nil _ | refine Le.agg ?_))) ?_); intro c4 h4
    refine AOps.nil ?_
    refine go_code ?_
    rcases bool_split h4 with ⟨rfl, g4⟩ | ⟨rfl, g4⟩
    · refine c_cond_f rfl ?_
      refine c_skip ?_
      refine go_code ?_
      refine c_seq ?_
      refine c_region ?_
      first | (refine AOps.st 10 rfl rfl rfl (op_load_m (i := 0) rfl ta_24 rfl rfl rfl rfl ?_)) | (refine AOps.st 10 rfl rfl rfl (op_load_m (i := 1) rfl ta_24 rfl rfl rfl rfl ?_)) | (refine AOps.st 10 rfl rfl rfl (op_load_m (i := 2) rfl ta_24 rfl rfl rfl rfl ?_)) | (refine AOps.st 10 rfl rfl rfl (op_load_m (i := 3) rfl ta_24 rfl rfl rfl rfl ?_)) | (refine AOps.st 10 rfl rfl rfl (op_load_m (i := 4) rfl ta_24 rfl rfl rfl rfl ?_)) | (refine AOps.st 10 rfl rfl rfl (op_load_m (i := 5) rfl ta_24 rfl rfl rfl rfl ?_)) | (refine AOps.st 10 rfl rfl rfl (op_load_c rfl ta_24 rfl rfl rfl ?_))
      first | (refine AOps.st0 rfl rfl (op_store (i := 0) rfl ts_24 rfl rfl rfl rfl rfl (Nat.le_of_ble_eq_true rfl) rfl ?_)) | (refine AOps.st0 rfl rfl (op_store (i := 1) rfl ts_24 rfl rfl rfl rfl rfl (Nat.le_of_ble_eq_true rfl) rfl ?_)) | (refine AOps.st0 rfl rfl (op_store (i := 2) rfl ts_24 rfl rfl rfl rfl rfl (Nat.le_of_ble_eq_true rfl) rfl ?_)) | (refine AOps.st0 rfl rfl (op_store (i := 3) rfl ts_24 rfl rfl rfl rfl rfl (Nat.le_of_ble_eq_true rfl) rfl ?_)) | (refine AOps.st0 rfl rfl (op_store (i := 4) rfl ts_24 rfl rfl rfl rfl rfl (Nat.le_of_ble_eq_true rfl) rfl ?_)) | (refine AOps.st0 rfl rfl (op_store (i := 5) rfl ts_24 rfl rfl rfl rfl rfl (Nat.le_of_ble_eq_true rfl) rfl ?_))
      refine AOps.nil ?_
      refine go_code ?_
      refine c_ret ?_
      rw [Ty.ans_not g4]
      exact out_cell (i := 0) rfl rfl rfl ta_24 rfl (by repeat' (first | exact Le.refl _ | exact Le.own _ _ _ | exact Le.nil _ | refine Le.agg ?_ | refine Le.tup ?_ | exact Les.refl _ | refine Les.cons ?_ ?_)) (by first | exact MLe.none _ | exact MLe.refl _ | (repeat' (first | exact MLe.nil | exact MLe.refl _ | refine MLe.cons _ ?_ | refine MLe.drop _ ?_))) ⟨rfl, rfl⟩
    · refine c_cond_t rfl ?_
      refine c_seq ?_
      obtain ⟨n', a, ⟨kb, sb, nb, kks⟩, e⟩ := Ty.fun_kids g4
      cases e
      have H := ih (.mk kb sb nb kks) (by simp [Ty.size, Ty.sizes] at hd ⊢; omega)
      rw [Ty.ans_fun]
      generalize Ty.ans _ = r at H ⊢
      obtain ⟨k', s', n'', ks'⟩ := r
      refine c_region ?_
      first | (refine AOps.st 5 rfl rfl rfl (op_fieldAddr_m rfl tf_24_3 rfl ?_)) | (refine AOps.st 5 rfl rfl rfl (op_fieldAddr_c rfl tf_24_3 rfl rfl ?_))
      first | (refine AOps.st 6 rfl rfl rfl (op_load_m1 (i := 0) rfl ta_22 rfl rfl rfl ?_)) | (refine AOps.st 6 rfl rfl rfl (op_load_m1 (i := 1) rfl ta_22 rfl rfl rfl ?_)) | (refine AOps.st 6 rfl rfl rfl (op_load_m1 (i := 2) rfl ta_22 rfl rfl rfl ?_)) | (refine AOps.st 6 rfl rfl rfl (op_load_m1 (i := 3) rfl ta_22 rfl rfl rfl ?_)) | (refine AOps.st 6 rfl rfl rfl (op_load_m1 (i := 4) rfl ta_22 rfl rfl rfl ?_)) | (refine AOps.st 6 rfl rfl rfl (op_load_m1 (i := 5) rfl ta_22 rfl rfl rfl ?_)) | (refine AOps.st 6 rfl rfl rfl (op_load_c1 rfl ta_22 rfl rfl ?_))
      first | (refine AOps.st 7 rfl rfl rfl (op_index rfl te_22 rfl (.seq _ _) rfl rfl (by assumption) ?_)) | (refine AOps.st 7 rfl rfl rfl (op_index (i := 0) rfl te_22 rfl (.seq _ _) rfl rfl (by first | rfl | assumption) ?_)) | (refine AOps.st 7 rfl rfl rfl (op_index (i := 1) rfl te_22 rfl (.seq _ _) rfl rfl (by first | rfl | assumption) ?_)) | (refine AOps.st 7 rfl rfl rfl (op_index rfl te_22 rfl (.own _ _ _) rfl rfl (by assumption) ?_)) | (refine AOps.st 7 rfl rfl rfl (op_index (i := 0) rfl te_22 rfl (.own _ _ _) rfl rfl (by first | rfl | assumption) ?_)) | (refine AOps.st 7 rfl rfl rfl (op_index (i := 1) rfl te_22 rfl (.own _ _ _) rfl rfl (by first | rfl | assumption) ?_)) | (refine AOps.st 7 rfl rfl rfl (op_index_arr rfl te_22 rfl rfl rfl (by omega) ?_))
      first | (refine AOps.st 8 rfl rfl rfl (op_load_m (i := 0) rfl ta_24 rfl rfl rfl rfl ?_)) | (refine AOps.st 8 rfl rfl rfl (op_load_m (i := 1) rfl ta_24 rfl rfl rfl rfl ?_)) | (refine AOps.st 8 rfl rfl rfl (op_load_m (i := 2) rfl ta_24 rfl rfl rfl rfl ?_)) | (refine AOps.st 8 rfl rfl rfl (op_load_m (i := 3) rfl ta_24 rfl rfl rfl rfl ?_)) | (refine AOps.st 8 rfl rfl rfl (op_load_m (i := 4) rfl ta_24 rfl rfl rfl rfl ?_)) | (refine AOps.st 8 rfl rfl rfl (op_load_m (i := 5) rfl ta_24 rfl rfl rfl rfl ?_)) | (refine AOps.st 8 rfl rfl rfl (op_load_c rfl ta_24 rfl rfl rfl ?_))
      refine AOps.st 9 rfl rfl rfl (op_callp (xs := [.tmp 8]) rfl rfl (H) (by first | exact Les.refl _ | (repeat' (first | exact Les.refl _ | refine Les.cons ?_ ?_ | exact Le.refl _ | exact Le.own _ _ _ | exact Le.nil _ | refine Le.agg ?_))) ?_)
      first | (refine AOps.st0 rfl rfl (op_store (i := 0) rfl ts_24 rfl rfl rfl rfl rfl (Nat.le_of_ble_eq_true rfl) rfl ?_)) | (refine AOps.st0 rfl rfl (op_store (i := 1) rfl ts_24 rfl rfl rfl rfl rfl (Nat.le_of_ble_eq_true rfl) rfl ?_)) | (refine AOps.st0 rfl rfl (op_store (i := 2) rfl ts_24 rfl rfl rfl rfl rfl (Nat.le_of_ble_eq_true rfl) rfl ?_)) | (refine AOps.st0 rfl rfl (op_store (i := 3) rfl ts_24 rfl rfl rfl rfl rfl (Nat.le_of_ble_eq_true rfl) rfl ?_)) | (refine AOps.st0 rfl rfl (op_store (i := 4) rfl ts_24 rfl rfl rfl rfl rfl (Nat.le_of_ble_eq_true rfl) rfl ?_)) | (refine AOps.st0 rfl rfl (op_store (i := 5) rfl ts_24 rfl rfl rfl rfl rfl (Nat.le_of_ble_eq_true rfl) rfl ?_))
      refine AOps.nil ?_
      refine go_code ?_
      refine c_ret ?_
      exact out_cell (i := 0) rfl rfl rfl ta_24 rfl (by repeat' (first | exact Le.refl _ | exact Le.own _ _ _ | exact Le.nil _ | refine Le.agg ?_ | refine Le.tup ?_ | exact Les.refl _ | refine Les.cons ?_ ?_)) (by first | exact MLe.none _ | exact MLe.refl _ | (repeat' (first | exact MLe.nil | exact MLe.refl _ | refine MLe.cons _ ?_ | refine MLe.drop _ ?_))) ⟨rfl, rfl⟩
set_option maxRecDepth 100000 in
theorem rArgs_c (d : Nat) : ∀ t : Ty, t.size ≤ d → t.size ≤ 1000000 → OCall Try.prog 25 [.agg t.cells] 24 4 (Ty.cellss t.args) := by
  induction d with
  | zero => intro t hd; have := Ty.size_pos t; omega
  | succ d ih =>
    rintro ⟨k, s, n, ks⟩ hd hmx
    refine ACall.enter Try.func25 rfl (by kernel_rfl) rfl (Nat.le_of_ble_eq_true rfl) ?_
    refine c_start ?_
    refine c_seq ?_
    refine c_region ?_
    refine AOps.st 1 rfl rfl rfl (op_box rfl rfl rfl ?_); intro b1
    refine AOps.st 2 rfl rfl rfl (op_assign rfl rfl ?_)
    refine AOps.nil ?_
    refine go_code ?_
    refine c_seq ?_
    refine c_region ?_
    refine AOps.st 3 rfl rfl rfl (op_assign rfl rfl ?_)
    refine AOps.nil ?_
    refine go_code ?_
    refine c_seq ?_
    refine c_seq ?_
    refine c_region ?_
    first | (refine AOps.st 4 rfl rfl rfl (op_load_m (i := 0) rfl ta_24 rfl rfl rfl rfl ?_)) | (refine AOps.st 4 rfl rfl rfl (op_load_m (i := 1) rfl ta_24 rfl rfl rfl rfl ?_)) | (refine AOps.st 4 rfl rfl rfl (op_load_m (i := 2) rfl ta_24 rfl rfl rfl rfl ?_)) | (refine AOps.st 4 rfl rfl rfl (op_load_m (i := 3) rfl ta_24 rfl rfl rfl rfl ?_)) | (refine AOps.st 4 rfl rfl rfl (op_load_m (i := 4) rfl ta_24 rfl rfl rfl rfl ?_)) | (refine AOps.st 4 rfl rfl rfl (op_load_m (i := 5) rfl ta_24 rfl rfl rfl rfl ?_)) | (refine AOps.st 4 rfl rfl rfl (op_load_c rfl ta_24 rfl rfl rfl ?_))
    refine AOps.st 5 rfl rfl rfl (op_callb (xs := [.tmp 4]) rfl rfl (IsFun_c (.mk k s n ks)) (by first | exact Les.refl _ | (repeat' (first | exact Les.refl _ | refine Les.cons ?_ ?_ | exact Le.refl _ | exact Le.own _ _ _ | exact Le.nil _ | refine Le.agg ?_))) ?_); intro c5 h5
    refine AOps.nil ?_
    refine go_code ?_
    rcases bool_split h5 with ⟨rfl, g5⟩ | ⟨rfl, g5⟩
    · refine c_cond_f rfl ?_
      refine c_skip ?_
      refine go_code ?_
      refine c_seq ?_
      refine c_region ?_
      refine AOps.st 20 rfl rfl rfl (op_move rfl rfl ?_)
      refine AOps.st 2 rfl rfl rfl (op_assign rfl rfl ?_)
      refine AOps.nil ?_
      refine go_code ?_
      try refine ACode.ownNil (t := 2) 24 4 rfl ?_
      refine c_ret ?_
      first | (rw [Ty.args_not g5]; exact out_tmp rfl rfl (Le.refl _) (by first | exact MLe.none _ | exact MLe.refl _ | (repeat' (first | exact MLe.nil | exact MLe.refl _ | refine MLe.cons _ ?_ | refine MLe.drop _ ?_))) ⟨_, rfl, rfl⟩) | (rw [Ty.args_fun]; exact out_tmp rfl rfl (Le.refl _) (by first | exact MLe.none _ | exact MLe.refl _ | (repeat' (first | exact MLe.nil | exact MLe.refl _ | refine MLe.cons _ ?_ | refine MLe.drop _ ?_))) ⟨_, rfl, rfl⟩)
    · refine c_cond_t rfl ?_
      refine c_seq ?_
      obtain ⟨n', ⟨ka, sa, na, kas⟩, ⟨kb, sb, nb, kks⟩, e⟩ := Ty.fun_kids g5
      cases e
      refine c_region ?_
      refine AOps.st 6 rfl rfl rfl (op_move rfl rfl ?_)
      first | (refine AOps.st 7 rfl rfl rfl (op_fieldAddr_m rfl tf_24_3 rfl ?_)) | (refine AOps.st 7 rfl rfl rfl (op_fieldAddr_c rfl tf_24_3 rfl rfl ?_))
      first | (refine AOps.st 8 rfl rfl rfl (op_load_m1 (i := 0) rfl ta_22 rfl rfl rfl ?_)) | (refine AOps.st 8 rfl rfl rfl (op_load_m1 (i := 1) rfl ta_22 rfl rfl rfl ?_)) | (refine AOps.st 8 rfl rfl rfl (op_load_m1 (i := 2) rfl ta_22 rfl rfl rfl ?_)) | (refine AOps.st 8 rfl rfl rfl (op_load_m1 (i := 3) rfl ta_22 rfl rfl rfl ?_)) | (refine AOps.st 8 rfl rfl rfl (op_load_m1 (i := 4) rfl ta_22 rfl rfl rfl ?_)) | (refine AOps.st 8 rfl rfl rfl (op_load_m1 (i := 5) rfl ta_22 rfl rfl rfl ?_)) | (refine AOps.st 8 rfl rfl rfl (op_load_c1 rfl ta_22 rfl rfl ?_))
      first | (refine AOps.st 9 rfl rfl rfl (op_index rfl te_22 rfl (.seq _ _) rfl rfl (by assumption) ?_)) | (refine AOps.st 9 rfl rfl rfl (op_index (i := 0) rfl te_22 rfl (.seq _ _) rfl rfl (by first | rfl | assumption) ?_)) | (refine AOps.st 9 rfl rfl rfl (op_index (i := 1) rfl te_22 rfl (.seq _ _) rfl rfl (by first | rfl | assumption) ?_)) | (refine AOps.st 9 rfl rfl rfl (op_index rfl te_22 rfl (.own _ _ _) rfl rfl (by assumption) ?_)) | (refine AOps.st 9 rfl rfl rfl (op_index (i := 0) rfl te_22 rfl (.own _ _ _) rfl rfl (by first | rfl | assumption) ?_)) | (refine AOps.st 9 rfl rfl rfl (op_index (i := 1) rfl te_22 rfl (.own _ _ _) rfl rfl (by first | rfl | assumption) ?_)) | (refine AOps.st 9 rfl rfl rfl (op_index_arr rfl te_22 rfl rfl rfl (by omega) ?_))
      first | (refine AOps.st 10 rfl rfl rfl (op_load_m (i := 0) rfl ta_24 rfl rfl rfl rfl ?_)) | (refine AOps.st 10 rfl rfl rfl (op_load_m (i := 1) rfl ta_24 rfl rfl rfl rfl ?_)) | (refine AOps.st 10 rfl rfl rfl (op_load_m (i := 2) rfl ta_24 rfl rfl rfl rfl ?_)) | (refine AOps.st 10 rfl rfl rfl (op_load_m (i := 3) rfl ta_24 rfl rfl rfl rfl ?_)) | (refine AOps.st 10 rfl rfl rfl (op_load_m (i := 4) rfl ta_24 rfl rfl rfl rfl ?_)) | (refine AOps.st 10 rfl rfl rfl (op_load_m (i := 5) rfl ta_24 rfl rfl rfl rfl ?_)) | (refine AOps.st 10 rfl rfl rfl (op_load_c rfl ta_24 rfl rfl rfl ?_))
      refine AOps.st 11 rfl rfl rfl (op_buildSlice (xs := [.tmp 10]) el_22 rfl rfl rfl rfl rfl rfl (Nat.le_of_ble_eq_true rfl) ?_)
      first | (refine AOps.st 12 rfl rfl rfl (op_append (i := 0) el_22 rfl rfl rfl rfl (.seq _ _) (by first | (simp; done) | (simp; omega) | omega) ?_)) | (refine AOps.st 12 rfl rfl rfl (op_append (i := 1) el_22 rfl rfl rfl rfl (.seq _ _) (by first | (simp; done) | (simp; omega) | omega) ?_)) | (refine AOps.st 12 rfl rfl rfl (op_append (i := 2) el_22 rfl rfl rfl rfl (.seq _ _) (by first | (simp; done) | (simp; omega) | omega) ?_)) | (refine AOps.st 12 rfl rfl rfl (op_append (i := 3) el_22 rfl rfl rfl rfl (.seq _ _) (by first | (simp; done) | (simp; omega) | omega) ?_)) | (refine AOps.st 12 rfl rfl rfl (op_append (i := 0) el_22 rfl rfl rfl rfl (.own _ _ _) (by first | (simp; done) | (simp; omega) | omega) ?_)) | (refine AOps.st 12 rfl rfl rfl (op_append (i := 1) el_22 rfl rfl rfl rfl (.own _ _ _) (by first | (simp; done) | (simp; omega) | omega) ?_)) | (refine AOps.st 12 rfl rfl rfl (op_append (i := 2) el_22 rfl rfl rfl rfl (.own _ _ _) (by first | (simp; done) | (simp; omega) | omega) ?_)) | (refine AOps.st 12 rfl rfl rfl (op_append (i := 3) el_22 rfl rfl rfl rfl (.own _ _ _) (by first | (simp; done) | (simp; omega) | omega) ?_)) | (refine AOps.st 12 rfl rfl rfl (op_append (i := 0) el_22 rfl rfl rfl rfl (.nil _) (by first | (simp; done) | (simp; omega) | omega) ?_)) | (refine AOps.st 12 rfl rfl rfl (op_append (i := 1) el_22 rfl rfl rfl rfl (.nil _) (by first | (simp; done) | (simp; omega) | omega) ?_)) | (refine AOps.st 12 rfl rfl rfl (op_append (i := 2) el_22 rfl rfl rfl rfl (.nil _) (by first | (simp; done) | (simp; omega) | omega) ?_)) | (refine AOps.st 12 rfl rfl rfl (op_append (i := 3) el_22 rfl rfl rfl rfl (.nil _) (by first | (simp; done) | (simp; omega) | omega) ?_)) | (refine AOps.st 12 rfl rfl rfl (op_append_nil el_22 rfl rfl rfl (.seq _ _) (by first | (simp; done) | (simp; omega) | omega) ?_)) | (refine AOps.st 12 rfl rfl rfl (op_append_nil el_22 rfl rfl rfl (.own _ _ _) (by first | (simp; done) | (simp; omega) | omega) ?_)) | (refine AOps.st 12 rfl rfl rfl (op_append_nil el_22 rfl rfl rfl (.nil _) (by first | (simp; done) | (simp; omega) | omega) ?_))
      intro u12
      refine AOps.st 3 rfl rfl rfl (op_assign rfl rfl ?_)
      refine AOps.nil ?_
      refine go_code ?_
      refine c_region ?_
      refine AOps.st 13 rfl rfl rfl (op_move rfl rfl ?_)
      first | (refine AOps.st 14 rfl rfl rfl (op_fieldAddr_m rfl tf_24_3 rfl ?_)) | (refine AOps.st 14 rfl rfl rfl (op_fieldAddr_c rfl tf_24_3 rfl rfl ?_))
      first | (refine AOps.st 15 rfl rfl rfl (op_load_m1 (i := 0) rfl ta_22 rfl rfl rfl ?_)) | (refine AOps.st 15 rfl rfl rfl (op_load_m1 (i := 1) rfl ta_22 rfl rfl rfl ?_)) | (refine AOps.st 15 rfl rfl rfl (op_load_m1 (i := 2) rfl ta_22 rfl rfl rfl ?_)) | (refine AOps.st 15 rfl rfl rfl (op_load_m1 (i := 3) rfl ta_22 rfl rfl rfl ?_)) | (refine AOps.st 15 rfl rfl rfl (op_load_m1 (i := 4) rfl ta_22 rfl rfl rfl ?_)) | (refine AOps.st 15 rfl rfl rfl (op_load_m1 (i := 5) rfl ta_22 rfl rfl rfl ?_)) | (refine AOps.st 15 rfl rfl rfl (op_load_c1 rfl ta_22 rfl rfl ?_))
      first | (refine AOps.st 16 rfl rfl rfl (op_index rfl te_22 rfl (.seq _ _) rfl rfl (by assumption) ?_)) | (refine AOps.st 16 rfl rfl rfl (op_index (i := 0) rfl te_22 rfl (.seq _ _) rfl rfl (by first | rfl | assumption) ?_)) | (refine AOps.st 16 rfl rfl rfl (op_index (i := 1) rfl te_22 rfl (.seq _ _) rfl rfl (by first | rfl | assumption) ?_)) | (refine AOps.st 16 rfl rfl rfl (op_index rfl te_22 rfl (.own _ _ _) rfl rfl (by assumption) ?_)) | (refine AOps.st 16 rfl rfl rfl (op_index (i := 0) rfl te_22 rfl (.own _ _ _) rfl rfl (by first | rfl | assumption) ?_)) | (refine AOps.st 16 rfl rfl rfl (op_index (i := 1) rfl te_22 rfl (.own _ _ _) rfl rfl (by first | rfl | assumption) ?_)) | (refine AOps.st 16 rfl rfl rfl (op_index_arr rfl te_22 rfl rfl rfl (by omega) ?_))
      first | (refine AOps.st 17 rfl rfl rfl (op_load_m (i := 0) rfl ta_24 rfl rfl rfl rfl ?_)) | (refine AOps.st 17 rfl rfl rfl (op_load_m (i := 1) rfl ta_24 rfl rfl rfl rfl ?_)) | (refine AOps.st 17 rfl rfl rfl (op_load_m (i := 2) rfl ta_24 rfl rfl rfl rfl ?_)) | (refine AOps.st 17 rfl rfl rfl (op_load_m (i := 3) rfl ta_24 rfl rfl rfl rfl ?_)) | (refine AOps.st 17 rfl rfl rfl (op_load_m (i := 4) rfl ta_24 rfl rfl rfl rfl ?_)) | (refine AOps.st 17 rfl rfl rfl (op_load_m (i := 5) rfl ta_24 rfl rfl rfl rfl ?_)) | (refine AOps.st 17 rfl rfl rfl (op_load_c rfl ta_24 rfl rfl rfl ?_))
      refine AOps.st 18 rfl rfl rfl (op_callo (xs := [.tmp 17]) rfl rfl (ih (.mk kb sb nb kks) (by simp [Ty.size, Ty.sizes] at hd ⊢; omega) (by simp [Ty.size, Ty.sizes] at hmx ⊢; omega)) (by first | exact Les.refl _ | (repeat' (first | exact Les.refl _ | refine Les.cons ?_ ?_ | exact Le.refl _ | exact Le.own _ _ _ | exact Le.nil _ | refine Le.agg ?_))) ?_); intro u18
      first | (refine AOps.st 19 rfl rfl rfl (op_append (i := 0) el_22 rfl rfl rfl rfl (.seq _ _) (by have := Ty.args_size (.mk kb sb nb kks); simp [Ty.cellss_len, Ty.size, Ty.sizes] at hmx this ⊢; omega) ?_)) | (refine AOps.st 19 rfl rfl rfl (op_append (i := 1) el_22 rfl rfl rfl rfl (.seq _ _) (by have := Ty.args_size (.mk kb sb nb kks); simp [Ty.cellss_len, Ty.size, Ty.sizes] at hmx this ⊢; omega) ?_)) | (refine AOps.st 19 rfl rfl rfl (op_append (i := 2) el_22 rfl rfl rfl rfl (.seq _ _) (by have := Ty.args_size (.mk kb sb nb kks); simp [Ty.cellss_len, Ty.size, Ty.sizes] at hmx this ⊢; omega) ?_)) | (refine AOps.st 19 rfl rfl rfl (op_append (i := 3) el_22 rfl rfl rfl rfl (.seq _ _) (by have := Ty.args_size (.mk kb sb nb kks); simp [Ty.cellss_len, Ty.size, Ty.sizes] at hmx this ⊢; omega) ?_)) | (refine AOps.st 19 rfl rfl rfl (op_append (i := 0) el_22 rfl rfl rfl rfl (.own _ _ _) (by have := Ty.args_size (.mk kb sb nb kks); simp [Ty.cellss_len, Ty.size, Ty.sizes] at hmx this ⊢; omega) ?_)) | (refine AOps.st 19 rfl rfl rfl (op_append (i := 1) el_22 rfl rfl rfl rfl (.own _ _ _) (by have := Ty.args_size (.mk kb sb nb kks); simp [Ty.cellss_len, Ty.size, Ty.sizes] at hmx this ⊢; omega) ?_)) | (refine AOps.st 19 rfl rfl rfl (op_append (i := 2) el_22 rfl rfl rfl rfl (.own _ _ _) (by have := Ty.args_size (.mk kb sb nb kks); simp [Ty.cellss_len, Ty.size, Ty.sizes] at hmx this ⊢; omega) ?_)) | (refine AOps.st 19 rfl rfl rfl (op_append (i := 3) el_22 rfl rfl rfl rfl (.own _ _ _) (by have := Ty.args_size (.mk kb sb nb kks); simp [Ty.cellss_len, Ty.size, Ty.sizes] at hmx this ⊢; omega) ?_)) | (refine AOps.st 19 rfl rfl rfl (op_append (i := 0) el_22 rfl rfl rfl rfl (.nil _) (by have := Ty.args_size (.mk kb sb nb kks); simp [Ty.cellss_len, Ty.size, Ty.sizes] at hmx this ⊢; omega) ?_)) | (refine AOps.st 19 rfl rfl rfl (op_append (i := 1) el_22 rfl rfl rfl rfl (.nil _) (by have := Ty.args_size (.mk kb sb nb kks); simp [Ty.cellss_len, Ty.size, Ty.sizes] at hmx this ⊢; omega) ?_)) | (refine AOps.st 19 rfl rfl rfl (op_append (i := 2) el_22 rfl rfl rfl rfl (.nil _) (by have := Ty.args_size (.mk kb sb nb kks); simp [Ty.cellss_len, Ty.size, Ty.sizes] at hmx this ⊢; omega) ?_)) | (refine AOps.st 19 rfl rfl rfl (op_append (i := 3) el_22 rfl rfl rfl rfl (.nil _) (by have := Ty.args_size (.mk kb sb nb kks); simp [Ty.cellss_len, Ty.size, Ty.sizes] at hmx this ⊢; omega) ?_)) | (refine AOps.st 19 rfl rfl rfl (op_append_nil el_22 rfl rfl rfl (.seq _ _) (by have := Ty.args_size (.mk kb sb nb kks); simp [Ty.cellss_len, Ty.size, Ty.sizes] at hmx this ⊢; omega) ?_)) | (refine AOps.st 19 rfl rfl rfl (op_append_nil el_22 rfl rfl rfl (.own _ _ _) (by have := Ty.args_size (.mk kb sb nb kks); simp [Ty.cellss_len, Ty.size, Ty.sizes] at hmx this ⊢; omega) ?_)) | (refine AOps.st 19 rfl rfl rfl (op_append_nil el_22 rfl rfl rfl (.nil _) (by have := Ty.args_size (.mk kb sb nb kks); simp [Ty.cellss_len, Ty.size, Ty.sizes] at hmx this ⊢; omega) ?_))
      intro u19
      refine AOps.st 3 rfl rfl rfl (op_assign rfl rfl ?_)
      refine AOps.nil ?_
      refine go_code ?_
      refine c_seq ?_
      refine c_region ?_
      refine AOps.st 20 rfl rfl rfl (op_move rfl rfl ?_)
      refine AOps.st 2 rfl rfl rfl (op_assign rfl rfl ?_)
      refine AOps.nil ?_
      refine go_code ?_
      try refine ACode.ownNil (t := 2) 24 4 rfl ?_
      refine c_ret ?_
      first | (rw [Ty.args_not g5]; exact out_tmp rfl rfl (Le.refl _) (by first | exact MLe.none _ | exact MLe.refl _ | (repeat' (first | exact MLe.nil | exact MLe.refl _ | refine MLe.cons _ ?_ | refine MLe.drop _ ?_))) ⟨_, rfl, rfl⟩) | (rw [Ty.args_fun]; exact out_tmp rfl rfl (Le.refl _) (by first | exact MLe.none _ | exact MLe.refl _ | (repeat' (first | exact MLe.nil | exact MLe.refl _ | refine MLe.cons _ ?_ | refine MLe.drop _ ?_))) ⟨_, rfl, rfl⟩)
end Go.Proofs.Ytjgjnheeohfmmaa
