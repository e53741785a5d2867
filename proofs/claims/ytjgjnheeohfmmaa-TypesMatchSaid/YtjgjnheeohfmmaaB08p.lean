/- Put and Apply of the document -/
import Derived.Test.YtjgjnheeohfmmaaB08t
namespace Go.Proofs.Ytjgjnheeohfmmaa
open Go.RowKit
set_option maxRecDepth 100000 in
theorem rPut_c (names : List ByteArray) (hnm : names.length ≤ 1000000) (ts : List Ty) (d : Nat) : ∀ t : Ty, t.size ≤ d → t.size ≤ 1000000 → PCall Try.prog 36 [.seq 1 (strs names), .seq 4 (Ty.cellss ts), .agg t.cells] (.agg (t.turn (putO names ts)).cells) := by
  induction d with
  | zero => intro t hd; have := Ty.size_pos t; omega
  | succ d ih =>
    rintro ⟨k, s, n, ks⟩ hd hmx
    have hl := Ty.cellss_len ks
    have hlt := Ty.cellss_len ts
    have hln := strs_len names
    have hls := Ty.len_sizes ks
    rw [Ty.size] at hd hmx
    refine ACall.enter Try.func36 rfl (by kernel_rfl) rfl (Nat.le_of_ble_eq_true rfl) ?_
    refine c_start ?_
    refine c_lens (t := 0) rfl (.seq _ _) (fun hmax => ?_)
    refine c_lens (t := 1) rfl (.seq _ _) (fun hmax1 => ?_)
    refine c_seq ?_
    refine c_region ?_
    refine AOps.st 5 rfl rfl rfl (op_box rfl rfl rfl ?_); intro b5
    refine AOps.st 6 rfl rfl rfl (op_alloc rfl tz_24 rfl ?_); intro b6
    refine AOps.nil ?_
    refine go_code ?_
    refine c_seq ?_
    refine c_seq ?_
    refine c_region ?_
    first | (refine AOps.st 10 rfl rfl rfl (op_fieldAddr_m rfl tf_24_0 rfl ?_)) | (refine AOps.st 10 rfl rfl rfl (op_fieldAddr_c rfl tf_24_0 rfl rfl ?_))
    first | (refine AOps.st 11 rfl rfl rfl (op_load_m1 (i := 0) rfl ta_3 rfl rfl rfl ?_)) | (refine AOps.st 11 rfl rfl rfl (op_load_m1 (i := 1) rfl ta_3 rfl rfl rfl ?_)) | (refine AOps.st 11 rfl rfl rfl (op_load_m1 (i := 2) rfl ta_3 rfl rfl rfl ?_)) | (refine AOps.st 11 rfl rfl rfl (op_load_m1 (i := 3) rfl ta_3 rfl rfl rfl ?_)) | (refine AOps.st 11 rfl rfl rfl (op_load_m1 (i := 4) rfl ta_3 rfl rfl rfl ?_)) | (refine AOps.st 11 rfl rfl rfl (op_load_m1 (i := 5) rfl ta_3 rfl rfl rfl ?_)) | (refine AOps.st 11 rfl rfl rfl (op_load_c1 rfl ta_3 rfl rfl ?_))
    refine AOps.st 12 rfl rfl rfl (op_eql rfl rfl rfl ?_); intro c12 h12
    refine AOps.nil ?_
    refine go_code ?_
    rcases bool_split h12 with ⟨rfl, g12⟩ | ⟨rfl, g12⟩
    · refine c_cond_f rfl ?_
      refine c_skip ?_
      refine go_code ?_
      refine c_seq ?_
      have hN : putO names ts (.mk k s n ks) = none := by
        first
          | exact putO_not g12
          | exact hu.elim (fun h => putO_out (by have h2 := h.2; rw [List.take_of_length_le (by omega)] at h2; rw [firstAt_out h2]; omega)) (fun h => h.2)
      refine c_region ?_
      refine AOps.st 8 rfl rfl rfl (op_assign rfl rfl ?_)
      refine AOps.nil ?_
      refine go_code ?_
      refine c_seq ?_
      refine c_seq ?_
      refine c_region ?_
      refine AOps.st 9 rfl rfl rfl (op_assign rfl rfl ?_)
      refine AOps.nil ?_
      refine go_code ?_
      refine c_block ?_
      refine ACode.ownNil (t := 8) 24 4 rfl ?_
      refine c_loop (σ := Nat × Value) (fun zz => match zz with | (i, u) => [(0, .seq 1 (strs names)), (1, .seq 4 (Ty.cellss ts)), (5, .ptr b5 0), (6, .ptr b6 0), (8, .own u 4 (Ty.cellss (Ty.turns (putO names ts) (ks.take i)))), (9, .val (.int .i64 i))]) (fun zz => match zz with | (i, u) => [.own 24 4 u, .loc b6 zTy, .loc b5 (Ty.cells (.mk k s n ks))]) (fun zz => match zz with | (i, u) => i ≤ ks.length) (fun zz => match zz with | (i, u) => ks.length - i) ((0, .slice none 0 0)) ?_ ?_ ?_ ?_
      · simp
      · exact (by repeat' (first | exact SLe.nil _ | refine SLe.cons rfl ?_ ?_ | exact Le.refl _ | exact Le.own _ _ _ | exact Le.nil _))
      · exact (by first | exact MLe.none _ | exact MLe.refl _ | (repeat' (first | exact MLe.nil | exact MLe.refl _ | refine MLe.cons _ ?_ | refine MLe.drop _ ?_)))
      rintro ⟨i, u⟩ hI
      try dsimp only at hI ⊢
      refine c_seq ?_
      refine c_seq ?_
      refine c_region ?_
      refine AOps.st 36 rfl rfl rfl (op_move rfl rfl ?_)
      first | (refine AOps.st 37 rfl rfl rfl (op_fieldAddr_m rfl tf_24_3 rfl ?_)) | (refine AOps.st 37 rfl rfl rfl (op_fieldAddr_c rfl tf_24_3 rfl rfl ?_))
      first | (refine AOps.st 38 rfl rfl rfl (op_load_m1 (i := 0) rfl ta_22 rfl rfl rfl ?_)) | (refine AOps.st 38 rfl rfl rfl (op_load_m1 (i := 1) rfl ta_22 rfl rfl rfl ?_)) | (refine AOps.st 38 rfl rfl rfl (op_load_m1 (i := 2) rfl ta_22 rfl rfl rfl ?_)) | (refine AOps.st 38 rfl rfl rfl (op_load_m1 (i := 3) rfl ta_22 rfl rfl rfl ?_)) | (refine AOps.st 38 rfl rfl rfl (op_load_m1 (i := 4) rfl ta_22 rfl rfl rfl ?_)) | (refine AOps.st 38 rfl rfl rfl (op_load_m1 (i := 5) rfl ta_22 rfl rfl rfl ?_)) | (refine AOps.st 38 rfl rfl rfl (op_load_c1 rfl ta_22 rfl rfl ?_))
      first | (refine AOps.st 39 rfl rfl rfl (op_len rfl tu_22 rfl (.seq _ _) (fun n39 => ?_))) | (refine AOps.st 39 rfl rfl rfl (op_len rfl tu_22 rfl (.own _ _ _) (fun n39 => ?_))) | (refine AOps.st 39 rfl rfl rfl (op_len rfl tu_22 rfl (.nil 0) (fun n39 => ?_))) | (refine AOps.st 39 rfl rfl rfl (op_len_arr rfl tu_22 rfl ?_))
      refine AOps.st 40 rfl rfl rfl (op_lss rfl rfl rfl ?_); intro c40 h40
      refine AOps.nil ?_
      refine go_code ?_
      rcases bool_split h40 with ⟨rfl, g40⟩ | ⟨rfl, g40⟩
      · refine c_cond_f rfl ?_
        refine c_exit ?_
        refine x_code ?_
        refine x_lp ?_
        refine x_here ?_
        refine go_code ?_
        refine c_seq ?_
        rw [List.take_of_length_le (by omega)]
        refine c_region ?_
        first | (refine AOps.st 54 rfl rfl rfl (op_load_m (i := 0) rfl ta_24 rfl rfl rfl rfl ?_)) | (refine AOps.st 54 rfl rfl rfl (op_load_m (i := 1) rfl ta_24 rfl rfl rfl rfl ?_)) | (refine AOps.st 54 rfl rfl rfl (op_load_m (i := 2) rfl ta_24 rfl rfl rfl rfl ?_)) | (refine AOps.st 54 rfl rfl rfl (op_load_m (i := 3) rfl ta_24 rfl rfl rfl rfl ?_)) | (refine AOps.st 54 rfl rfl rfl (op_load_m (i := 4) rfl ta_24 rfl rfl rfl rfl ?_)) | (refine AOps.st 54 rfl rfl rfl (op_load_m (i := 5) rfl ta_24 rfl rfl rfl rfl ?_)) | (refine AOps.st 54 rfl rfl rfl (op_load_c rfl ta_24 rfl rfl rfl ?_))
        refine AOps.st 55 rfl rfl rfl (op_move rfl rfl ?_)
        refine AOps.st 56 rfl rfl rfl (op_callp (xs := [.tmp 54, .tmp 55]) rfl rfl (kids_c (.mk k s n ks) (Ty.turns (putO names ts) ks)) (by first | exact Les.refl _ | (repeat' (first | exact Les.refl _ | refine Les.cons ?_ ?_ | exact Le.refl _ | exact Le.own _ _ _ | exact Le.nil _ | refine Le.agg ?_))) ?_)
        first | (refine AOps.st0 rfl rfl (op_store (i := 0) rfl ts_24 rfl rfl rfl rfl rfl (Nat.le_of_ble_eq_true rfl) rfl ?_)) | (refine AOps.st0 rfl rfl (op_store (i := 1) rfl ts_24 rfl rfl rfl rfl rfl (Nat.le_of_ble_eq_true rfl) rfl ?_)) | (refine AOps.st0 rfl rfl (op_store (i := 2) rfl ts_24 rfl rfl rfl rfl rfl (Nat.le_of_ble_eq_true rfl) rfl ?_)) | (refine AOps.st0 rfl rfl (op_store (i := 3) rfl ts_24 rfl rfl rfl rfl rfl (Nat.le_of_ble_eq_true rfl) rfl ?_)) | (refine AOps.st0 rfl rfl (op_store (i := 4) rfl ts_24 rfl rfl rfl rfl rfl (Nat.le_of_ble_eq_true rfl) rfl ?_)) | (refine AOps.st0 rfl rfl (op_store (i := 5) rfl ts_24 rfl rfl rfl rfl rfl (Nat.le_of_ble_eq_true rfl) rfl ?_))
        refine AOps.nil ?_
        refine go_code ?_
        refine c_ret ?_
        rw [Ty.turn_none hN]
        exact out_cell (i := 1) rfl rfl rfl ta_24 rfl (by repeat' (first | exact Le.refl _ | exact Le.own _ _ _ | exact Le.nil _ | refine Le.agg ?_ | refine Le.tup ?_ | exact Les.refl _ | refine Les.cons ?_ ?_)) (by first | exact MLe.none _ | exact MLe.refl _ | (repeat' (first | exact MLe.nil | exact MLe.refl _ | refine MLe.cons _ ?_ | refine MLe.drop _ ?_))) ⟨rfl, rfl⟩
      · refine c_cond_t rfl ?_
        refine c_skip ?_
        refine go_code ?_
        refine c_seq ?_
        refine c_block ?_
        obtain ⟨⟨k', s', n', ks'⟩, hx⟩ := get_some (l := ks) (i := i) (by omega)
        have hcx := Ty.cellss_get hx
        have hsz := Ty.size_at hx
        have H := ih (.mk k' s' n' ks') (by omega) (by omega)
        have he : Ty.cellss (Ty.turns (putO names ts) (ks.take (i + 1))) = Ty.cellss (Ty.turns (putO names ts) (ks.take i)) ++ [(Ty.turn (putO names ts) (.mk k' s' n' ks')).cells] := by rw [take_snoc hx, Ty.turns_snoc, Ty.cellss_app]; rfl
        generalize Ty.turn (putO names ts) (.mk k' s' n' ks') = r at H he
        obtain ⟨rk, rs, rn, rks⟩ := r
        refine c_region ?_
        refine AOps.st 43 rfl rfl rfl (op_move rfl rfl ?_)
        refine AOps.st 44 rfl rfl rfl (op_move rfl rfl ?_)
        refine AOps.st 45 rfl rfl rfl (op_move rfl rfl ?_)
        first | (refine AOps.st 46 rfl rfl rfl (op_fieldAddr_m rfl tf_24_3 rfl ?_)) | (refine AOps.st 46 rfl rfl rfl (op_fieldAddr_c rfl tf_24_3 rfl rfl ?_))
        first | (refine AOps.st 47 rfl rfl rfl (op_load_m1 (i := 0) rfl ta_22 rfl rfl rfl ?_)) | (refine AOps.st 47 rfl rfl rfl (op_load_m1 (i := 1) rfl ta_22 rfl rfl rfl ?_)) | (refine AOps.st 47 rfl rfl rfl (op_load_m1 (i := 2) rfl ta_22 rfl rfl rfl ?_)) | (refine AOps.st 47 rfl rfl rfl (op_load_m1 (i := 3) rfl ta_22 rfl rfl rfl ?_)) | (refine AOps.st 47 rfl rfl rfl (op_load_m1 (i := 4) rfl ta_22 rfl rfl rfl ?_)) | (refine AOps.st 47 rfl rfl rfl (op_load_m1 (i := 5) rfl ta_22 rfl rfl rfl ?_)) | (refine AOps.st 47 rfl rfl rfl (op_load_c1 rfl ta_22 rfl rfl ?_))
        refine AOps.st 48 rfl rfl rfl (op_move rfl rfl ?_)
        first | (refine AOps.st 49 rfl rfl rfl (op_index rfl te_22 rfl (.seq _ _) rfl rfl (by assumption) ?_)) | (refine AOps.st 49 rfl rfl rfl (op_index (i := 0) rfl te_22 rfl (.seq _ _) rfl rfl (by first | rfl | assumption) ?_)) | (refine AOps.st 49 rfl rfl rfl (op_index (i := 1) rfl te_22 rfl (.seq _ _) rfl rfl (by first | rfl | assumption) ?_)) | (refine AOps.st 49 rfl rfl rfl (op_index rfl te_22 rfl (.own _ _ _) rfl rfl (by assumption) ?_)) | (refine AOps.st 49 rfl rfl rfl (op_index (i := 0) rfl te_22 rfl (.own _ _ _) rfl rfl (by first | rfl | assumption) ?_)) | (refine AOps.st 49 rfl rfl rfl (op_index (i := 1) rfl te_22 rfl (.own _ _ _) rfl rfl (by first | rfl | assumption) ?_)) | (refine AOps.st 49 rfl rfl rfl (op_index_arr rfl te_22 rfl rfl rfl (by omega) ?_))
        first | (refine AOps.st 50 rfl rfl rfl (op_load_m (i := 0) rfl ta_24 rfl rfl rfl rfl ?_)) | (refine AOps.st 50 rfl rfl rfl (op_load_m (i := 1) rfl ta_24 rfl rfl rfl rfl ?_)) | (refine AOps.st 50 rfl rfl rfl (op_load_m (i := 2) rfl ta_24 rfl rfl rfl rfl ?_)) | (refine AOps.st 50 rfl rfl rfl (op_load_m (i := 3) rfl ta_24 rfl rfl rfl rfl ?_)) | (refine AOps.st 50 rfl rfl rfl (op_load_m (i := 4) rfl ta_24 rfl rfl rfl rfl ?_)) | (refine AOps.st 50 rfl rfl rfl (op_load_m (i := 5) rfl ta_24 rfl rfl rfl rfl ?_)) | (refine AOps.st 50 rfl rfl rfl (op_load_c rfl ta_24 rfl rfl rfl ?_))
        refine AOps.st 51 rfl rfl rfl (op_callp (xs := [.tmp 44, .tmp 45, .tmp 50]) rfl rfl (H) (by first | exact Les.refl _ | (repeat' (first | exact Les.refl _ | refine Les.cons ?_ ?_ | exact Le.refl _ | exact Le.own _ _ _ | exact Le.nil _ | refine Le.agg ?_))) ?_)
        refine AOps.st 52 rfl rfl rfl (op_buildSlice (xs := [.tmp 51]) el_22 rfl rfl rfl rfl rfl rfl (Nat.le_of_ble_eq_true rfl) ?_)
        first | (refine AOps.st 53 rfl rfl rfl (op_append (i := 0) el_22 rfl rfl rfl rfl (.seq _ _) (by simp [Ty.cellss_len, Ty.turns_len]; omega) ?_)) | (refine AOps.st 53 rfl rfl rfl (op_append (i := 1) el_22 rfl rfl rfl rfl (.seq _ _) (by simp [Ty.cellss_len, Ty.turns_len]; omega) ?_)) | (refine AOps.st 53 rfl rfl rfl (op_append (i := 2) el_22 rfl rfl rfl rfl (.seq _ _) (by simp [Ty.cellss_len, Ty.turns_len]; omega) ?_)) | (refine AOps.st 53 rfl rfl rfl (op_append (i := 3) el_22 rfl rfl rfl rfl (.seq _ _) (by simp [Ty.cellss_len, Ty.turns_len]; omega) ?_)) | (refine AOps.st 53 rfl rfl rfl (op_append (i := 0) el_22 rfl rfl rfl rfl (.own _ _ _) (by simp [Ty.cellss_len, Ty.turns_len]; omega) ?_)) | (refine AOps.st 53 rfl rfl rfl (op_append (i := 1) el_22 rfl rfl rfl rfl (.own _ _ _) (by simp [Ty.cellss_len, Ty.turns_len]; omega) ?_)) | (refine AOps.st 53 rfl rfl rfl (op_append (i := 2) el_22 rfl rfl rfl rfl (.own _ _ _) (by simp [Ty.cellss_len, Ty.turns_len]; omega) ?_)) | (refine AOps.st 53 rfl rfl rfl (op_append (i := 3) el_22 rfl rfl rfl rfl (.own _ _ _) (by simp [Ty.cellss_len, Ty.turns_len]; omega) ?_)) | (refine AOps.st 53 rfl rfl rfl (op_append (i := 0) el_22 rfl rfl rfl rfl (.nil _) (by simp [Ty.cellss_len, Ty.turns_len]; omega) ?_)) | (refine AOps.st 53 rfl rfl rfl (op_append (i := 1) el_22 rfl rfl rfl rfl (.nil _) (by simp [Ty.cellss_len, Ty.turns_len]; omega) ?_)) | (refine AOps.st 53 rfl rfl rfl (op_append (i := 2) el_22 rfl rfl rfl rfl (.nil _) (by simp [Ty.cellss_len, Ty.turns_len]; omega) ?_)) | (refine AOps.st 53 rfl rfl rfl (op_append (i := 3) el_22 rfl rfl rfl rfl (.nil _) (by simp [Ty.cellss_len, Ty.turns_len]; omega) ?_)) | (refine AOps.st 53 rfl rfl rfl (op_append_nil el_22 rfl rfl rfl (.seq _ _) (by simp [Ty.cellss_len, Ty.turns_len]; omega) ?_)) | (refine AOps.st 53 rfl rfl rfl (op_append_nil el_22 rfl rfl rfl (.own _ _ _) (by simp [Ty.cellss_len, Ty.turns_len]; omega) ?_)) | (refine AOps.st 53 rfl rfl rfl (op_append_nil el_22 rfl rfl rfl (.nil _) (by simp [Ty.cellss_len, Ty.turns_len]; omega) ?_))
        intro u53
        refine AOps.st 8 rfl rfl rfl (op_assign rfl rfl ?_)
        refine AOps.nil ?_
        refine go_blk ?_
        refine go_code ?_
        refine c_region ?_
        refine AOps.st 41 rfl rfl rfl (op_move rfl rfl ?_)
        first | (refine AOps.st 42 rfl rfl rfl (op_add rfl rfl rfl (IntWalk.i64_in _ (by omega)) ?_)) | (refine AOps.st 42 rfl rfl rfl (op_add rfl rfl rfl rfl ?_))
        refine AOps.st 9 rfl rfl rfl (op_assign rfl rfl ?_)
        refine AOps.nil ?_
        refine go_lp ?_
        exact ⟨(i + 1, u53), by simp; omega, by simp; omega, (by repeat' (first | exact SLe.nil _ | refine SLe.cons rfl ?_ ?_ | exact Le.refl _ | exact Le.own _ _ _ | exact Le.nil _ | (refine Le.own_eq ?_; (rw [he]; rfl)) | (refine Le.own_seq ?_; (rw [he]; rfl)) | (refine Le.seq_eq ?_; (rw [he]; rfl)))), (by first | exact MLe.none _ | exact MLe.refl _ | (repeat' (first | exact MLe.nil | exact MLe.refl _ | refine MLe.cons _ ?_ | refine MLe.drop _ ?_)))⟩
    · refine c_cond_t rfl ?_
      refine c_seq ?_
      refine c_region ?_
      refine AOps.st 7 rfl rfl rfl (op_assign rfl rfl ?_)
      refine AOps.nil ?_
      refine go_code ?_
      refine c_block ?_
      refine c_loop (σ := Nat) (fun zz => match zz with | i => [(0, .seq 1 (strs names)), (1, .seq 4 (Ty.cellss ts)), (5, .ptr b5 0), (6, .ptr b6 0), (7, .val (.int .i64 i))]) (fun zz => match zz with | i => [.loc b6 zTy, .loc b5 (Ty.cells (.mk k s n ks))]) (fun zz => match zz with | i => i ≤ names.length + 1 ∧ (i ≤ names.length ∧ s ∉ names.take i ∨ i = names.length + 1 ∧ putO names ts (.mk k s n ks) = none)) (fun zz => match zz with | i => names.length + 1 - i) (0) ?_ ?_ ?_ ?_
      · exact ⟨by omega, Or.inl ⟨by omega, by simp⟩⟩
      · exact (by repeat' (first | exact SLe.nil _ | refine SLe.cons rfl ?_ ?_ | exact Le.refl _ | exact Le.own _ _ _ | exact Le.nil _))
      · exact (by first | exact MLe.none _ | exact MLe.refl _ | (repeat' (first | exact MLe.nil | exact MLe.refl _ | refine MLe.cons _ ?_ | refine MLe.drop _ ?_)))
      rintro i hI
      try dsimp only at hI ⊢
      obtain ⟨hi, hu⟩ := hI
      refine c_seq ?_
      refine c_seq ?_
      refine c_region ?_
      refine AOps.st 13 rfl rfl rfl (op_move rfl rfl ?_)
      refine AOps.st 14 rfl rfl rfl (op_move rfl rfl ?_)
      first | (refine AOps.st 15 rfl rfl rfl (op_len rfl tu_27 rfl (.seq _ _) (fun n15 => ?_))) | (refine AOps.st 15 rfl rfl rfl (op_len rfl tu_27 rfl (.own _ _ _) (fun n15 => ?_))) | (refine AOps.st 15 rfl rfl rfl (op_len rfl tu_27 rfl (.nil 0) (fun n15 => ?_))) | (refine AOps.st 15 rfl rfl rfl (op_len_arr rfl tu_27 rfl ?_))
      refine AOps.st 16 rfl rfl rfl (op_lss rfl rfl rfl ?_); intro c16 h16
      refine AOps.nil ?_
      refine go_code ?_
      rcases bool_split h16 with ⟨rfl, g16⟩ | ⟨rfl, g16⟩
      · refine c_cond_f rfl ?_
        refine c_exit ?_
        refine x_code ?_
        refine x_lp ?_
        refine x_here ?_
        refine go_code ?_
        refine c_seq ?_
        have hN : putO names ts (.mk k s n ks) = none := by
          first
            | exact putO_not g12
            | exact hu.elim (fun h => putO_out (by have h2 := h.2; rw [List.take_of_length_le (by omega)] at h2; rw [firstAt_out h2]; omega)) (fun h => h.2)
        refine c_region ?_
        refine AOps.st 8 rfl rfl rfl (op_assign rfl rfl ?_)
        refine AOps.nil ?_
        refine go_code ?_
        refine c_seq ?_
        refine c_seq ?_
        refine c_region ?_
        refine AOps.st 9 rfl rfl rfl (op_assign rfl rfl ?_)
        refine AOps.nil ?_
        refine go_code ?_
        refine c_block ?_
        refine ACode.ownNil (t := 8) 24 4 rfl ?_
        refine c_loop (σ := Nat × Value) (fun zz => match zz with | (i, u) => [(0, .seq 1 (strs names)), (1, .seq 4 (Ty.cellss ts)), (5, .ptr b5 0), (6, .ptr b6 0), (8, .own u 4 (Ty.cellss (Ty.turns (putO names ts) (ks.take i)))), (9, .val (.int .i64 i))]) (fun zz => match zz with | (i, u) => [.own 24 4 u, .loc b6 zTy, .loc b5 (Ty.cells (.mk k s n ks))]) (fun zz => match zz with | (i, u) => i ≤ ks.length) (fun zz => match zz with | (i, u) => ks.length - i) ((0, .slice none 0 0)) ?_ ?_ ?_ ?_
        · simp
        · exact (by repeat' (first | exact SLe.nil _ | refine SLe.cons rfl ?_ ?_ | exact Le.refl _ | exact Le.own _ _ _ | exact Le.nil _))
        · exact (by first | exact MLe.none _ | exact MLe.refl _ | (repeat' (first | exact MLe.nil | exact MLe.refl _ | refine MLe.cons _ ?_ | refine MLe.drop _ ?_)))
        rintro ⟨i, u⟩ hI
        try dsimp only at hI ⊢
        refine c_seq ?_
        refine c_seq ?_
        refine c_region ?_
        refine AOps.st 36 rfl rfl rfl (op_move rfl rfl ?_)
        first | (refine AOps.st 37 rfl rfl rfl (op_fieldAddr_m rfl tf_24_3 rfl ?_)) | (refine AOps.st 37 rfl rfl rfl (op_fieldAddr_c rfl tf_24_3 rfl rfl ?_))
        first | (refine AOps.st 38 rfl rfl rfl (op_load_m1 (i := 0) rfl ta_22 rfl rfl rfl ?_)) | (refine AOps.st 38 rfl rfl rfl (op_load_m1 (i := 1) rfl ta_22 rfl rfl rfl ?_)) | (refine AOps.st 38 rfl rfl rfl (op_load_m1 (i := 2) rfl ta_22 rfl rfl rfl ?_)) | (refine AOps.st 38 rfl rfl rfl (op_load_m1 (i := 3) rfl ta_22 rfl rfl rfl ?_)) | (refine AOps.st 38 rfl rfl rfl (op_load_m1 (i := 4) rfl ta_22 rfl rfl rfl ?_)) | (refine AOps.st 38 rfl rfl rfl (op_load_m1 (i := 5) rfl ta_22 rfl rfl rfl ?_)) | (refine AOps.st 38 rfl rfl rfl (op_load_c1 rfl ta_22 rfl rfl ?_))
        first | (refine AOps.st 39 rfl rfl rfl (op_len rfl tu_22 rfl (.seq _ _) (fun n39 => ?_))) | (refine AOps.st 39 rfl rfl rfl (op_len rfl tu_22 rfl (.own _ _ _) (fun n39 => ?_))) | (refine AOps.st 39 rfl rfl rfl (op_len rfl tu_22 rfl (.nil 0) (fun n39 => ?_))) | (refine AOps.st 39 rfl rfl rfl (op_len_arr rfl tu_22 rfl ?_))
        refine AOps.st 40 rfl rfl rfl (op_lss rfl rfl rfl ?_); intro c40 h40
        refine AOps.nil ?_
        refine go_code ?_
        rcases bool_split h40 with ⟨rfl, g40⟩ | ⟨rfl, g40⟩
        · refine c_cond_f rfl ?_
          refine c_exit ?_
          refine x_code ?_
          refine x_lp ?_
          refine x_here ?_
          refine go_code ?_
          refine c_seq ?_
          rw [List.take_of_length_le (by omega)]
          refine c_region ?_
          first | (refine AOps.st 54 rfl rfl rfl (op_load_m (i := 0) rfl ta_24 rfl rfl rfl rfl ?_)) | (refine AOps.st 54 rfl rfl rfl (op_load_m (i := 1) rfl ta_24 rfl rfl rfl rfl ?_)) | (refine AOps.st 54 rfl rfl rfl (op_load_m (i := 2) rfl ta_24 rfl rfl rfl rfl ?_)) | (refine AOps.st 54 rfl rfl rfl (op_load_m (i := 3) rfl ta_24 rfl rfl rfl rfl ?_)) | (refine AOps.st 54 rfl rfl rfl (op_load_m (i := 4) rfl ta_24 rfl rfl rfl rfl ?_)) | (refine AOps.st 54 rfl rfl rfl (op_load_m (i := 5) rfl ta_24 rfl rfl rfl rfl ?_)) | (refine AOps.st 54 rfl rfl rfl (op_load_c rfl ta_24 rfl rfl rfl ?_))
          refine AOps.st 55 rfl rfl rfl (op_move rfl rfl ?_)
          refine AOps.st 56 rfl rfl rfl (op_callp (xs := [.tmp 54, .tmp 55]) rfl rfl (kids_c (.mk k s n ks) (Ty.turns (putO names ts) ks)) (by first | exact Les.refl _ | (repeat' (first | exact Les.refl _ | refine Les.cons ?_ ?_ | exact Le.refl _ | exact Le.own _ _ _ | exact Le.nil _ | refine Le.agg ?_))) ?_)
          first | (refine AOps.st0 rfl rfl (op_store (i := 0) rfl ts_24 rfl rfl rfl rfl rfl (Nat.le_of_ble_eq_true rfl) rfl ?_)) | (refine AOps.st0 rfl rfl (op_store (i := 1) rfl ts_24 rfl rfl rfl rfl rfl (Nat.le_of_ble_eq_true rfl) rfl ?_)) | (refine AOps.st0 rfl rfl (op_store (i := 2) rfl ts_24 rfl rfl rfl rfl rfl (Nat.le_of_ble_eq_true rfl) rfl ?_)) | (refine AOps.st0 rfl rfl (op_store (i := 3) rfl ts_24 rfl rfl rfl rfl rfl (Nat.le_of_ble_eq_true rfl) rfl ?_)) | (refine AOps.st0 rfl rfl (op_store (i := 4) rfl ts_24 rfl rfl rfl rfl rfl (Nat.le_of_ble_eq_true rfl) rfl ?_)) | (refine AOps.st0 rfl rfl (op_store (i := 5) rfl ts_24 rfl rfl rfl rfl rfl (Nat.le_of_ble_eq_true rfl) rfl ?_))
          refine AOps.nil ?_
          refine go_code ?_
          refine c_ret ?_
          rw [Ty.turn_none hN]
          exact out_cell (i := 1) rfl rfl rfl ta_24 rfl (by repeat' (first | exact Le.refl _ | exact Le.own _ _ _ | exact Le.nil _ | refine Le.agg ?_ | refine Le.tup ?_ | exact Les.refl _ | refine Les.cons ?_ ?_)) (by first | exact MLe.none _ | exact MLe.refl _ | (repeat' (first | exact MLe.nil | exact MLe.refl _ | refine MLe.cons _ ?_ | refine MLe.drop _ ?_))) ⟨rfl, rfl⟩
        · refine c_cond_t rfl ?_
          refine c_skip ?_
          refine go_code ?_
          refine c_seq ?_
          refine c_block ?_
          obtain ⟨⟨k', s', n', ks'⟩, hx⟩ := get_some (l := ks) (i := i) (by omega)
          have hcx := Ty.cellss_get hx
          have hsz := Ty.size_at hx
          have H := ih (.mk k' s' n' ks') (by omega) (by omega)
          have he : Ty.cellss (Ty.turns (putO names ts) (ks.take (i + 1))) = Ty.cellss (Ty.turns (putO names ts) (ks.take i)) ++ [(Ty.turn (putO names ts) (.mk k' s' n' ks')).cells] := by rw [take_snoc hx, Ty.turns_snoc, Ty.cellss_app]; rfl
          generalize Ty.turn (putO names ts) (.mk k' s' n' ks') = r at H he
          obtain ⟨rk, rs, rn, rks⟩ := r
          refine c_region ?_
          refine AOps.st 43 rfl rfl rfl (op_move rfl rfl ?_)
          refine AOps.st 44 rfl rfl rfl (op_move rfl rfl ?_)
          refine AOps.st 45 rfl rfl rfl (op_move rfl rfl ?_)
          first | (refine AOps.st 46 rfl rfl rfl (op_fieldAddr_m rfl tf_24_3 rfl ?_)) | (refine AOps.st 46 rfl rfl rfl (op_fieldAddr_c rfl tf_24_3 rfl rfl ?_))
          first | (refine AOps.st 47 rfl rfl rfl (op_load_m1 (i := 0) rfl ta_22 rfl rfl rfl ?_)) | (refine AOps.st 47 rfl rfl rfl (op_load_m1 (i := 1) rfl ta_22 rfl rfl rfl ?_)) | (refine AOps.st 47 rfl rfl rfl (op_load_m1 (i := 2) rfl ta_22 rfl rfl rfl ?_)) | (refine AOps.st 47 rfl rfl rfl (op_load_m1 (i := 3) rfl ta_22 rfl rfl rfl ?_)) | (refine AOps.st 47 rfl rfl rfl (op_load_m1 (i := 4) rfl ta_22 rfl rfl rfl ?_)) | (refine AOps.st 47 rfl rfl rfl (op_load_m1 (i := 5) rfl ta_22 rfl rfl rfl ?_)) | (refine AOps.st 47 rfl rfl rfl (op_load_c1 rfl ta_22 rfl rfl ?_))
          refine AOps.st 48 rfl rfl rfl (op_move rfl rfl ?_)
          first | (refine AOps.st 49 rfl rfl rfl (op_index rfl te_22 rfl (.seq _ _) rfl rfl (by assumption) ?_)) | (refine AOps.st 49 rfl rfl rfl (op_index (i := 0) rfl te_22 rfl (.seq _ _) rfl rfl (by first | rfl | assumption) ?_)) | (refine AOps.st 49 rfl rfl rfl (op_index (i := 1) rfl te_22 rfl (.seq _ _) rfl rfl (by first | rfl | assumption) ?_)) | (refine AOps.st 49 rfl rfl rfl (op_index rfl te_22 rfl (.own _ _ _) rfl rfl (by assumption) ?_)) | (refine AOps.st 49 rfl rfl rfl (op_index (i := 0) rfl te_22 rfl (.own _ _ _) rfl rfl (by first | rfl | assumption) ?_)) | (refine AOps.st 49 rfl rfl rfl (op_index (i := 1) rfl te_22 rfl (.own _ _ _) rfl rfl (by first | rfl | assumption) ?_)) | (refine AOps.st 49 rfl rfl rfl (op_index_arr rfl te_22 rfl rfl rfl (by omega) ?_))
          first | (refine AOps.st 50 rfl rfl rfl (op_load_m (i := 0) rfl ta_24 rfl rfl rfl rfl ?_)) | (refine AOps.st 50 rfl rfl rfl (op_load_m (i := 1) rfl ta_24 rfl rfl rfl rfl ?_)) | (refine AOps.st 50 rfl rfl rfl (op_load_m (i := 2) rfl ta_24 rfl rfl rfl rfl ?_)) | (refine AOps.st 50 rfl rfl rfl (op_load_m (i := 3) rfl ta_24 rfl rfl rfl rfl ?_)) | (refine AOps.st 50 rfl rfl rfl (op_load_m (i := 4) rfl ta_24 rfl rfl rfl rfl ?_)) | (refine AOps.st 50 rfl rfl rfl (op_load_m (i := 5) rfl ta_24 rfl rfl rfl rfl ?_)) | (refine AOps.st 50 rfl rfl rfl (op_load_c rfl ta_24 rfl rfl rfl ?_))
          refine AOps.st 51 rfl rfl rfl (op_callp (xs := [.tmp 44, .tmp 45, .tmp 50]) rfl rfl (H) (by first | exact Les.refl _ | (repeat' (first | exact Les.refl _ | refine Les.cons ?_ ?_ | exact Le.refl _ | exact Le.own _ _ _ | exact Le.nil _ | refine Le.agg ?_))) ?_)
          refine AOps.st 52 rfl rfl rfl (op_buildSlice (xs := [.tmp 51]) el_22 rfl rfl rfl rfl rfl rfl (Nat.le_of_ble_eq_true rfl) ?_)
          first | (refine AOps.st 53 rfl rfl rfl (op_append (i := 0) el_22 rfl rfl rfl rfl (.seq _ _) (by simp [Ty.cellss_len, Ty.turns_len]; omega) ?_)) | (refine AOps.st 53 rfl rfl rfl (op_append (i := 1) el_22 rfl rfl rfl rfl (.seq _ _) (by simp [Ty.cellss_len, Ty.turns_len]; omega) ?_)) | (refine AOps.st 53 rfl rfl rfl (op_append (i := 2) el_22 rfl rfl rfl rfl (.seq _ _) (by simp [Ty.cellss_len, Ty.turns_len]; omega) ?_)) | (refine AOps.st 53 rfl rfl rfl (op_append (i := 3) el_22 rfl rfl rfl rfl (.seq _ _) (by simp [Ty.cellss_len, Ty.turns_len]; omega) ?_)) | (refine AOps.st 53 rfl rfl rfl (op_append (i := 0) el_22 rfl rfl rfl rfl (.own _ _ _) (by simp [Ty.cellss_len, Ty.turns_len]; omega) ?_)) | (refine AOps.st 53 rfl rfl rfl (op_append (i := 1) el_22 rfl rfl rfl rfl (.own _ _ _) (by simp [Ty.cellss_len, Ty.turns_len]; omega) ?_)) | (refine AOps.st 53 rfl rfl rfl (op_append (i := 2) el_22 rfl rfl rfl rfl (.own _ _ _) (by simp [Ty.cellss_len, Ty.turns_len]; omega) ?_)) | (refine AOps.st 53 rfl rfl rfl (op_append (i := 3) el_22 rfl rfl rfl rfl (.own _ _ _) (by simp [Ty.cellss_len, Ty.turns_len]; omega) ?_)) | (refine AOps.st 53 rfl rfl rfl (op_append (i := 0) el_22 rfl rfl rfl rfl (.nil _) (by simp [Ty.cellss_len, Ty.turns_len]; omega) ?_)) | (refine AOps.st 53 rfl rfl rfl (op_append (i := 1) el_22 rfl rfl rfl rfl (.nil _) (by simp [Ty.cellss_len, Ty.turns_len]; omega) ?_)) | (refine AOps.st 53 rfl rfl rfl (op_append (i := 2) el_22 rfl rfl rfl rfl (.nil _) (by simp [Ty.cellss_len, Ty.turns_len]; omega) ?_)) | (refine AOps.st 53 rfl rfl rfl (op_append (i := 3) el_22 rfl rfl rfl rfl (.nil _) (by simp [Ty.cellss_len, Ty.turns_len]; omega) ?_)) | (refine AOps.st 53 rfl rfl rfl (op_append_nil el_22 rfl rfl rfl (.seq _ _) (by simp [Ty.cellss_len, Ty.turns_len]; omega) ?_)) | (refine AOps.st 53 rfl rfl rfl (op_append_nil el_22 rfl rfl rfl (.own _ _ _) (by simp [Ty.cellss_len, Ty.turns_len]; omega) ?_)) | (refine AOps.st 53 rfl rfl rfl (op_append_nil el_22 rfl rfl rfl (.nil _) (by simp [Ty.cellss_len, Ty.turns_len]; omega) ?_))
          intro u53
          refine AOps.st 8 rfl rfl rfl (op_assign rfl rfl ?_)
          refine AOps.nil ?_
          refine go_blk ?_
          refine go_code ?_
          refine c_region ?_
          refine AOps.st 41 rfl rfl rfl (op_move rfl rfl ?_)
          first | (refine AOps.st 42 rfl rfl rfl (op_add rfl rfl rfl (IntWalk.i64_in _ (by omega)) ?_)) | (refine AOps.st 42 rfl rfl rfl (op_add rfl rfl rfl rfl ?_))
          refine AOps.st 9 rfl rfl rfl (op_assign rfl rfl ?_)
          refine AOps.nil ?_
          refine go_lp ?_
          exact ⟨(i + 1, u53), by simp; omega, by simp; omega, (by repeat' (first | exact SLe.nil _ | refine SLe.cons rfl ?_ ?_ | exact Le.refl _ | exact Le.own _ _ _ | exact Le.nil _ | (refine Le.own_eq ?_; (rw [he]; rfl)) | (refine Le.own_seq ?_; (rw [he]; rfl)) | (refine Le.seq_eq ?_; (rw [he]; rfl)))), (by first | exact MLe.none _ | exact MLe.refl _ | (repeat' (first | exact MLe.nil | exact MLe.refl _ | refine MLe.cons _ ?_ | refine MLe.drop _ ?_)))⟩
      · refine c_cond_t rfl ?_
        refine c_skip ?_
        refine go_code ?_
        refine c_seq ?_
        refine c_block ?_
        refine c_seq ?_
        obtain ⟨y, hy⟩ := get_some (l := names) (i := i) (by omega)
        have hcy := strs_get hy
        refine c_drawn tmix rfl ?_
        refine DOps.st 19 rfl rfl (op_move rfl rfl ⟨rfl, rfl⟩) ?_
        refine DOps.st 20 rfl rfl (op_move rfl rfl ⟨rfl, rfl⟩) ?_
        first | (refine DOps.st 21 rfl rfl (op_index rfl te_27 rfl (.seq _ _) rfl rfl (by assumption) ⟨rfl, rfl⟩) ?_) | (refine DOps.st 21 rfl rfl (op_index (i := 0) rfl te_27 rfl (.seq _ _) rfl rfl (by first | rfl | assumption) ⟨rfl, rfl⟩) ?_) | (refine DOps.st 21 rfl rfl (op_index (i := 1) rfl te_27 rfl (.seq _ _) rfl rfl (by first | rfl | assumption) ⟨rfl, rfl⟩) ?_) | (refine DOps.st 21 rfl rfl (op_index rfl te_27 rfl (.own _ _ _) rfl rfl (by assumption) ⟨rfl, rfl⟩) ?_) | (refine DOps.st 21 rfl rfl (op_index (i := 0) rfl te_27 rfl (.own _ _ _) rfl rfl (by first | rfl | assumption) ⟨rfl, rfl⟩) ?_) | (refine DOps.st 21 rfl rfl (op_index (i := 1) rfl te_27 rfl (.own _ _ _) rfl rfl (by first | rfl | assumption) ⟨rfl, rfl⟩) ?_) | (refine DOps.st 21 rfl rfl (op_index_arr rfl te_27 rfl rfl rfl (by omega) ⟨rfl, rfl⟩) ?_)
        first | (refine DOps.st 22 rfl rfl (op_load_m1 (i := 0) rfl ta_9 rfl rfl rfl ⟨rfl, rfl⟩) ?_) | (refine DOps.st 22 rfl rfl (op_load_m1 (i := 1) rfl ta_9 rfl rfl rfl ⟨rfl, rfl⟩) ?_) | (refine DOps.st 22 rfl rfl (op_load_m1 (i := 2) rfl ta_9 rfl rfl rfl ⟨rfl, rfl⟩) ?_) | (refine DOps.st 22 rfl rfl (op_load_m1 (i := 3) rfl ta_9 rfl rfl rfl ⟨rfl, rfl⟩) ?_) | (refine DOps.st 22 rfl rfl (op_load_m1 (i := 4) rfl ta_9 rfl rfl rfl ⟨rfl, rfl⟩) ?_) | (refine DOps.st 22 rfl rfl (op_load_m1 (i := 5) rfl ta_9 rfl rfl rfl ⟨rfl, rfl⟩) ?_) | (refine DOps.st 22 rfl rfl (op_load_c1 rfl ta_9 rfl rfl ⟨rfl, rfl⟩) ?_)
        first | (refine DOps.st 23 rfl rfl (op_fieldAddr_m rfl tf_24_1 rfl ⟨rfl, rfl⟩) ?_) | (refine DOps.st 23 rfl rfl (op_fieldAddr_c rfl tf_24_1 rfl rfl ⟨rfl, rfl⟩) ?_)
        first | (refine DOps.st 24 rfl rfl (op_load_m1 (i := 0) rfl ta_9 rfl rfl rfl ⟨rfl, rfl⟩) ?_) | (refine DOps.st 24 rfl rfl (op_load_m1 (i := 1) rfl ta_9 rfl rfl rfl ⟨rfl, rfl⟩) ?_) | (refine DOps.st 24 rfl rfl (op_load_m1 (i := 2) rfl ta_9 rfl rfl rfl ⟨rfl, rfl⟩) ?_) | (refine DOps.st 24 rfl rfl (op_load_m1 (i := 3) rfl ta_9 rfl rfl rfl ⟨rfl, rfl⟩) ?_) | (refine DOps.st 24 rfl rfl (op_load_m1 (i := 4) rfl ta_9 rfl rfl rfl ⟨rfl, rfl⟩) ?_) | (refine DOps.st 24 rfl rfl (op_load_m1 (i := 5) rfl ta_9 rfl rfl rfl ⟨rfl, rfl⟩) ?_) | (refine DOps.st 24 rfl rfl (op_load_c1 rfl ta_9 rfl rfl ⟨rfl, rfl⟩) ?_)
        refine DOps.cm 25 rfl rfl (fun _ q => op_seql rfl rfl rfl q) ?_; intro c25 h25
        show AGo _ _ _ _ _ _
        refine go_code ?_
        rcases bool_split h25 with ⟨rfl, g25⟩ | ⟨rfl, g25⟩
        · refine c_cond_f rfl ?_
          refine c_skip ?_
          refine go_blk ?_
          refine go_code ?_
          refine c_region ?_
          refine AOps.st 17 rfl rfl rfl (op_move rfl rfl ?_)
          first | (refine AOps.st 18 rfl rfl rfl (op_add rfl rfl rfl (IntWalk.i64_in _ (by omega)) ?_)) | (refine AOps.st 18 rfl rfl rfl (op_add rfl rfl rfl rfl ?_))
          refine AOps.st 7 rfl rfl rfl (op_assign rfl rfl ?_)
          refine AOps.nil ?_
          refine go_lp ?_
          first | (rw [hln]; exact ⟨names.length + 1, ⟨by omega, Or.inr ⟨rfl, hB⟩⟩, by simp; omega, (by repeat' (first | exact SLe.nil _ | refine SLe.cons rfl ?_ ?_ | exact Le.refl _ | exact Le.own _ _ _ | exact Le.nil _)), (by first | exact MLe.none _ | exact MLe.refl _ | (repeat' (first | exact MLe.nil | exact MLe.refl _ | refine MLe.cons _ ?_ | refine MLe.drop _ ?_)))⟩) | exact ⟨i + 1, ⟨by omega, by rcases hu with ⟨_, hu⟩ | hu; exact Or.inl ⟨by omega, not_mem_take hu hy g25⟩; omega⟩, by simp; omega, (by repeat' (first | exact SLe.nil _ | refine SLe.cons rfl ?_ ?_ | exact Le.refl _ | exact Le.own _ _ _ | exact Le.nil _)), (by first | exact MLe.none _ | exact MLe.refl _ | (repeat' (first | exact MLe.nil | exact MLe.refl _ | refine MLe.cons _ ?_ | refine MLe.drop _ ?_)))⟩
        · refine c_cond_t rfl ?_
          refine c_seq ?_
          refine c_seq ?_
          refine c_region ?_
          refine AOps.st 26 rfl rfl rfl (op_move rfl rfl ?_)
          refine AOps.st 27 rfl rfl rfl (op_move rfl rfl ?_)
          first | (refine AOps.st 28 rfl rfl rfl (op_len rfl tu_22 rfl (.seq _ _) (fun n28 => ?_))) | (refine AOps.st 28 rfl rfl rfl (op_len rfl tu_22 rfl (.own _ _ _) (fun n28 => ?_))) | (refine AOps.st 28 rfl rfl rfl (op_len rfl tu_22 rfl (.nil 0) (fun n28 => ?_))) | (refine AOps.st 28 rfl rfl rfl (op_len_arr rfl tu_22 rfl ?_))
          refine AOps.st 29 rfl rfl rfl (op_lss rfl rfl rfl ?_); intro c29 h29
          refine AOps.nil ?_
          refine go_code ?_
          rcases bool_split h29 with ⟨rfl, g29⟩ | ⟨rfl, g29⟩
          · refine c_cond_f rfl ?_
            refine c_skip ?_
            refine go_code ?_
            obtain ⟨_, hu⟩ : i ≤ names.length ∧ s ∉ names.take i := by rcases hu with hu | hu; exact hu; omega
            have hB : putO names ts (.mk k s n ks) = none := putO_big (by rw [firstAt_at hu (by rw [hy, g25])]; omega)
            refine c_region ?_
            refine AOps.st 34 rfl rfl rfl (op_move rfl rfl ?_)
            first | (refine AOps.st 35 rfl rfl rfl (op_len rfl tu_27 rfl (.seq _ _) (fun n35 => ?_))) | (refine AOps.st 35 rfl rfl rfl (op_len rfl tu_27 rfl (.own _ _ _) (fun n35 => ?_))) | (refine AOps.st 35 rfl rfl rfl (op_len rfl tu_27 rfl (.nil 0) (fun n35 => ?_))) | (refine AOps.st 35 rfl rfl rfl (op_len_arr rfl tu_27 rfl ?_))
            refine AOps.st 7 rfl rfl rfl (op_assign rfl rfl ?_)
            refine AOps.nil ?_
            refine go_blk ?_
            refine go_code ?_
            refine c_region ?_
            refine AOps.st 17 rfl rfl rfl (op_move rfl rfl ?_)
            first | (refine AOps.st 18 rfl rfl rfl (op_add rfl rfl rfl (IntWalk.i64_in _ (by omega)) ?_)) | (refine AOps.st 18 rfl rfl rfl (op_add rfl rfl rfl rfl ?_))
            refine AOps.st 7 rfl rfl rfl (op_assign rfl rfl ?_)
            refine AOps.nil ?_
            refine go_lp ?_
            first | (rw [hln]; exact ⟨names.length + 1, ⟨by omega, Or.inr ⟨rfl, hB⟩⟩, by simp; omega, (by repeat' (first | exact SLe.nil _ | refine SLe.cons rfl ?_ ?_ | exact Le.refl _ | exact Le.own _ _ _ | exact Le.nil _)), (by first | exact MLe.none _ | exact MLe.refl _ | (repeat' (first | exact MLe.nil | exact MLe.refl _ | refine MLe.cons _ ?_ | refine MLe.drop _ ?_)))⟩) | exact ⟨i + 1, ⟨by omega, by rcases hu with ⟨_, hu⟩ | hu; exact Or.inl ⟨by omega, not_mem_take hu hy g25⟩; omega⟩, by simp; omega, (by repeat' (first | exact SLe.nil _ | refine SLe.cons rfl ?_ ?_ | exact Le.refl _ | exact Le.own _ _ _ | exact Le.nil _)), (by first | exact MLe.none _ | exact MLe.refl _ | (repeat' (first | exact MLe.nil | exact MLe.refl _ | refine MLe.cons _ ?_ | refine MLe.drop _ ?_)))⟩
          · refine c_cond_t rfl ?_
            refine c_seq ?_
            obtain ⟨⟨yk, ys, yn, yks⟩, hz⟩ := get_some (l := ts) (i := i) (by omega)
            have hcz := Ty.cellss_get hz
            refine c_region ?_
            refine AOps.st 30 rfl rfl rfl (op_move rfl rfl ?_)
            refine AOps.st 31 rfl rfl rfl (op_move rfl rfl ?_)
            first | (refine AOps.st 32 rfl rfl rfl (op_index rfl te_22 rfl (.seq _ _) rfl rfl (by assumption) ?_)) | (refine AOps.st 32 rfl rfl rfl (op_index (i := 0) rfl te_22 rfl (.seq _ _) rfl rfl (by first | rfl | assumption) ?_)) | (refine AOps.st 32 rfl rfl rfl (op_index (i := 1) rfl te_22 rfl (.seq _ _) rfl rfl (by first | rfl | assumption) ?_)) | (refine AOps.st 32 rfl rfl rfl (op_index rfl te_22 rfl (.own _ _ _) rfl rfl (by assumption) ?_)) | (refine AOps.st 32 rfl rfl rfl (op_index (i := 0) rfl te_22 rfl (.own _ _ _) rfl rfl (by first | rfl | assumption) ?_)) | (refine AOps.st 32 rfl rfl rfl (op_index (i := 1) rfl te_22 rfl (.own _ _ _) rfl rfl (by first | rfl | assumption) ?_)) | (refine AOps.st 32 rfl rfl rfl (op_index_arr rfl te_22 rfl rfl rfl (by omega) ?_))
            first | (refine AOps.st 33 rfl rfl rfl (op_load_m (i := 0) rfl ta_24 rfl rfl rfl rfl ?_)) | (refine AOps.st 33 rfl rfl rfl (op_load_m (i := 1) rfl ta_24 rfl rfl rfl rfl ?_)) | (refine AOps.st 33 rfl rfl rfl (op_load_m (i := 2) rfl ta_24 rfl rfl rfl rfl ?_)) | (refine AOps.st 33 rfl rfl rfl (op_load_m (i := 3) rfl ta_24 rfl rfl rfl rfl ?_)) | (refine AOps.st 33 rfl rfl rfl (op_load_m (i := 4) rfl ta_24 rfl rfl rfl rfl ?_)) | (refine AOps.st 33 rfl rfl rfl (op_load_m (i := 5) rfl ta_24 rfl rfl rfl rfl ?_)) | (refine AOps.st 33 rfl rfl rfl (op_load_c rfl ta_24 rfl rfl rfl ?_))
            first | (refine AOps.st0 rfl rfl (op_store (i := 0) rfl ts_24 rfl rfl rfl rfl rfl (Nat.le_of_ble_eq_true rfl) rfl ?_)) | (refine AOps.st0 rfl rfl (op_store (i := 1) rfl ts_24 rfl rfl rfl rfl rfl (Nat.le_of_ble_eq_true rfl) rfl ?_)) | (refine AOps.st0 rfl rfl (op_store (i := 2) rfl ts_24 rfl rfl rfl rfl rfl (Nat.le_of_ble_eq_true rfl) rfl ?_)) | (refine AOps.st0 rfl rfl (op_store (i := 3) rfl ts_24 rfl rfl rfl rfl rfl (Nat.le_of_ble_eq_true rfl) rfl ?_)) | (refine AOps.st0 rfl rfl (op_store (i := 4) rfl ts_24 rfl rfl rfl rfl rfl (Nat.le_of_ble_eq_true rfl) rfl ?_)) | (refine AOps.st0 rfl rfl (op_store (i := 5) rfl ts_24 rfl rfl rfl rfl rfl (Nat.le_of_ble_eq_true rfl) rfl ?_))
            refine AOps.nil ?_
            refine go_code ?_
            refine c_ret ?_
            obtain ⟨_, hu⟩ : i ≤ names.length ∧ s ∉ names.take i := by rcases hu with hu | hu; exact hu; omega
            have hR : Ty.turn (putO names ts) (.mk k s n ks) = .mk yk ys yn yks := by
              refine Ty.turn_some ?_
              rw [g12, putO_in (firstAt_at hu (by rw [hy, g25])), hz]
            rw [hR]
            exact out_cell (i := 0) rfl rfl rfl ta_24 rfl (by repeat' (first | exact Le.refl _ | exact Le.own _ _ _ | exact Le.nil _ | refine Le.agg ?_ | refine Le.tup ?_ | exact Les.refl _ | refine Les.cons ?_ ?_)) (by first | exact MLe.none _ | exact MLe.refl _ | (repeat' (first | exact MLe.nil | exact MLe.refl _ | refine MLe.cons _ ?_ | refine MLe.drop _ ?_))) ⟨rfl, rfl⟩
theorem applyO_at {subs : List (Int × Ty)} {i : Nat} {pn : Int} {y : Ty} {s : ByteArray} {n : Int} {ks : List Ty} (h : ∀ x ∈ subs.take i, x.1 ≠ n) (hx : subs[i]? = some (pn, y)) (e : pn = n) : applyO subs (.mk 2 s n ks) = some y := by
  have h1 : firstP (fun p : Int × Ty => p.1 == n) subs 0 = (i : Int) := by
    rw [← firstP_drop _ subs i (fun x hx => by simpa using h x hx), drop_at hx, firstP, if_pos (by simpa using e)]
  have := ((firstP_find (fun p : Int × Ty => p.1 == n) subs 0).2 i h1).2.1
  unfold applyO
  simp only [Ty.kind, Ty.num]
  rw [this]
  simp [hx]
theorem applyO_out {subs : List (Int × Ty)} {k : Int} {s : ByteArray} {n : Int} {ks : List Ty} (h : ∀ x ∈ subs, x.1 ≠ n) : applyO subs (.mk k s n ks) = none := by
  unfold applyO
  split
  · simp only [Option.map_eq_none_iff, List.find?_eq_none, Ty.num]
    intro x hx; simpa using h x hx
  · rfl
set_option maxRecDepth 100000 in
theorem rApply_c (subs : List (Int × Ty)) (d : Nat) : ∀ t : Ty, t.size ≤ d → t.size ≤ 1000000 → PCall Try.prog 38 [.seq 5 (subss subs), .agg t.cells] (.agg (t.turn (applyO subs)).cells) := by
  induction d with
  | zero => intro t hd; have := Ty.size_pos t; omega
  | succ d ih =>
    rintro ⟨k, s, n, ks⟩ hd hmx
    have hl := Ty.cellss_len ks
    have hln := subss_len subs
    have hls := Ty.len_sizes ks
    rw [Ty.size] at hd hmx
    refine ACall.enter Try.func38 rfl (by kernel_rfl) rfl (Nat.le_of_ble_eq_true rfl) ?_
    refine c_start ?_
    refine c_lens (t := 0) rfl (.seq _ _) (fun hmax => ?_)
    refine c_seq ?_
    refine c_region ?_
    refine AOps.st 3 rfl rfl rfl (op_box rfl rfl rfl ?_); intro b3
    refine AOps.st 4 rfl rfl rfl (op_alloc rfl tz_24 rfl ?_); intro b4
    refine AOps.nil ?_
    refine go_code ?_
    refine c_seq ?_
    refine c_seq ?_
    refine c_region ?_
    first | (refine AOps.st 8 rfl rfl rfl (op_fieldAddr_m rfl tf_24_0 rfl ?_)) | (refine AOps.st 8 rfl rfl rfl (op_fieldAddr_c rfl tf_24_0 rfl rfl ?_))
    first | (refine AOps.st 9 rfl rfl rfl (op_load_m1 (i := 0) rfl ta_3 rfl rfl rfl ?_)) | (refine AOps.st 9 rfl rfl rfl (op_load_m1 (i := 1) rfl ta_3 rfl rfl rfl ?_)) | (refine AOps.st 9 rfl rfl rfl (op_load_m1 (i := 2) rfl ta_3 rfl rfl rfl ?_)) | (refine AOps.st 9 rfl rfl rfl (op_load_m1 (i := 3) rfl ta_3 rfl rfl rfl ?_)) | (refine AOps.st 9 rfl rfl rfl (op_load_m1 (i := 4) rfl ta_3 rfl rfl rfl ?_)) | (refine AOps.st 9 rfl rfl rfl (op_load_m1 (i := 5) rfl ta_3 rfl rfl rfl ?_)) | (refine AOps.st 9 rfl rfl rfl (op_load_c1 rfl ta_3 rfl rfl ?_))
    refine AOps.st 10 rfl rfl rfl (op_eql rfl rfl rfl ?_); intro c10 h10
    refine AOps.nil ?_
    refine go_code ?_
    rcases bool_split h10 with ⟨rfl, g10⟩ | ⟨rfl, g10⟩
    · refine c_cond_f rfl ?_
      refine c_skip ?_
      refine go_code ?_
      refine c_seq ?_
      have hN : applyO subs (.mk k s n ks) = none := by
        first
          | exact applyO_not g10
          | exact applyO_out (by rwa [List.take_of_length_le (by omega)] at hu)
      refine c_region ?_
      refine AOps.st 6 rfl rfl rfl (op_assign rfl rfl ?_)
      refine AOps.nil ?_
      refine go_code ?_
      refine c_seq ?_
      refine c_seq ?_
      refine c_region ?_
      refine AOps.st 7 rfl rfl rfl (op_assign rfl rfl ?_)
      refine AOps.nil ?_
      refine go_code ?_
      refine c_block ?_
      refine ACode.ownNil (t := 6) 24 4 rfl ?_
      refine c_loop (σ := Nat × Value) (fun zz => match zz with | (i, u) => [(0, .seq 5 (subss subs)), (3, .ptr b3 0), (4, .ptr b4 0), (6, .own u 4 (Ty.cellss (Ty.turns (applyO subs) (ks.take i)))), (7, .val (.int .i64 i))]) (fun zz => match zz with | (i, u) => [.own 24 4 u, .loc b4 zTy, .loc b3 (Ty.cells (.mk k s n ks))]) (fun zz => match zz with | (i, u) => i ≤ ks.length) (fun zz => match zz with | (i, u) => ks.length - i) ((0, .slice none 0 0)) ?_ ?_ ?_ ?_
      · simp
      · exact (by repeat' (first | exact SLe.nil _ | refine SLe.cons rfl ?_ ?_ | exact Le.refl _ | exact Le.own _ _ _ | exact Le.nil _))
      · exact (by first | exact MLe.none _ | exact MLe.refl _ | (repeat' (first | exact MLe.nil | exact MLe.refl _ | refine MLe.cons _ ?_ | refine MLe.drop _ ?_)))
      rintro ⟨i, u⟩ hI
      try dsimp only at hI ⊢
      refine c_seq ?_
      refine c_seq ?_
      refine c_region ?_
      refine AOps.st 30 rfl rfl rfl (op_move rfl rfl ?_)
      first | (refine AOps.st 31 rfl rfl rfl (op_fieldAddr_m rfl tf_24_3 rfl ?_)) | (refine AOps.st 31 rfl rfl rfl (op_fieldAddr_c rfl tf_24_3 rfl rfl ?_))
      first | (refine AOps.st 32 rfl rfl rfl (op_load_m1 (i := 0) rfl ta_22 rfl rfl rfl ?_)) | (refine AOps.st 32 rfl rfl rfl (op_load_m1 (i := 1) rfl ta_22 rfl rfl rfl ?_)) | (refine AOps.st 32 rfl rfl rfl (op_load_m1 (i := 2) rfl ta_22 rfl rfl rfl ?_)) | (refine AOps.st 32 rfl rfl rfl (op_load_m1 (i := 3) rfl ta_22 rfl rfl rfl ?_)) | (refine AOps.st 32 rfl rfl rfl (op_load_m1 (i := 4) rfl ta_22 rfl rfl rfl ?_)) | (refine AOps.st 32 rfl rfl rfl (op_load_m1 (i := 5) rfl ta_22 rfl rfl rfl ?_)) | (refine AOps.st 32 rfl rfl rfl (op_load_c1 rfl ta_22 rfl rfl ?_))
      first | (refine AOps.st 33 rfl rfl rfl (op_len rfl tu_22 rfl (.seq _ _) (fun n33 => ?_))) | (refine AOps.st 33 rfl rfl rfl (op_len rfl tu_22 rfl (.own _ _ _) (fun n33 => ?_))) | (refine AOps.st 33 rfl rfl rfl (op_len rfl tu_22 rfl (.nil 0) (fun n33 => ?_))) | (refine AOps.st 33 rfl rfl rfl (op_len_arr rfl tu_22 rfl ?_))
      refine AOps.st 34 rfl rfl rfl (op_lss rfl rfl rfl ?_); intro c34 h34
      refine AOps.nil ?_
      refine go_code ?_
      rcases bool_split h34 with ⟨rfl, g34⟩ | ⟨rfl, g34⟩
      · refine c_cond_f rfl ?_
        refine c_exit ?_
        refine x_code ?_
        refine x_lp ?_
        refine x_here ?_
        refine go_code ?_
        refine c_seq ?_
        rw [List.take_of_length_le (by omega)]
        refine c_region ?_
        first | (refine AOps.st 47 rfl rfl rfl (op_load_m (i := 0) rfl ta_24 rfl rfl rfl rfl ?_)) | (refine AOps.st 47 rfl rfl rfl (op_load_m (i := 1) rfl ta_24 rfl rfl rfl rfl ?_)) | (refine AOps.st 47 rfl rfl rfl (op_load_m (i := 2) rfl ta_24 rfl rfl rfl rfl ?_)) | (refine AOps.st 47 rfl rfl rfl (op_load_m (i := 3) rfl ta_24 rfl rfl rfl rfl ?_)) | (refine AOps.st 47 rfl rfl rfl (op_load_m (i := 4) rfl ta_24 rfl rfl rfl rfl ?_)) | (refine AOps.st 47 rfl rfl rfl (op_load_m (i := 5) rfl ta_24 rfl rfl rfl rfl ?_)) | (refine AOps.st 47 rfl rfl rfl (op_load_c rfl ta_24 rfl rfl rfl ?_))
        refine AOps.st 48 rfl rfl rfl (op_move rfl rfl ?_)
        refine AOps.st 49 rfl rfl rfl (op_callp (xs := [.tmp 47, .tmp 48]) rfl rfl (kids_c (.mk k s n ks) (Ty.turns (applyO subs) ks)) (by first | exact Les.refl _ | (repeat' (first | exact Les.refl _ | refine Les.cons ?_ ?_ | exact Le.refl _ | exact Le.own _ _ _ | exact Le.nil _ | refine Le.agg ?_))) ?_)
        first | (refine AOps.st0 rfl rfl (op_store (i := 0) rfl ts_24 rfl rfl rfl rfl rfl (Nat.le_of_ble_eq_true rfl) rfl ?_)) | (refine AOps.st0 rfl rfl (op_store (i := 1) rfl ts_24 rfl rfl rfl rfl rfl (Nat.le_of_ble_eq_true rfl) rfl ?_)) | (refine AOps.st0 rfl rfl (op_store (i := 2) rfl ts_24 rfl rfl rfl rfl rfl (Nat.le_of_ble_eq_true rfl) rfl ?_)) | (refine AOps.st0 rfl rfl (op_store (i := 3) rfl ts_24 rfl rfl rfl rfl rfl (Nat.le_of_ble_eq_true rfl) rfl ?_)) | (refine AOps.st0 rfl rfl (op_store (i := 4) rfl ts_24 rfl rfl rfl rfl rfl (Nat.le_of_ble_eq_true rfl) rfl ?_)) | (refine AOps.st0 rfl rfl (op_store (i := 5) rfl ts_24 rfl rfl rfl rfl rfl (Nat.le_of_ble_eq_true rfl) rfl ?_))
        refine AOps.nil ?_
        refine go_code ?_
        refine c_ret ?_
        rw [Ty.turn_none hN]
        exact out_cell (i := 1) rfl rfl rfl ta_24 rfl (by repeat' (first | exact Le.refl _ | exact Le.own _ _ _ | exact Le.nil _ | refine Le.agg ?_ | refine Le.tup ?_ | exact Les.refl _ | refine Les.cons ?_ ?_)) (by first | exact MLe.none _ | exact MLe.refl _ | (repeat' (first | exact MLe.nil | exact MLe.refl _ | refine MLe.cons _ ?_ | refine MLe.drop _ ?_))) ⟨rfl, rfl⟩
      · refine c_cond_t rfl ?_
        refine c_skip ?_
        refine go_code ?_
        refine c_seq ?_
        refine c_block ?_
        obtain ⟨⟨k', s', n', ks'⟩, hx⟩ := get_some (l := ks) (i := i) (by omega)
        have hcx := Ty.cellss_get hx
        have hsz := Ty.size_at hx
        have H := ih (.mk k' s' n' ks') (by omega) (by omega)
        have he : Ty.cellss (Ty.turns (applyO subs) (ks.take (i + 1))) = Ty.cellss (Ty.turns (applyO subs) (ks.take i)) ++ [(Ty.turn (applyO subs) (.mk k' s' n' ks')).cells] := by rw [take_snoc hx, Ty.turns_snoc, Ty.cellss_app]; rfl
        generalize Ty.turn (applyO subs) (.mk k' s' n' ks') = r at H he
        obtain ⟨rk, rs, rn, rks⟩ := r
        refine c_region ?_
        refine AOps.st 37 rfl rfl rfl (op_move rfl rfl ?_)
        refine AOps.st 38 rfl rfl rfl (op_move rfl rfl ?_)
        first | (refine AOps.st 39 rfl rfl rfl (op_fieldAddr_m rfl tf_24_3 rfl ?_)) | (refine AOps.st 39 rfl rfl rfl (op_fieldAddr_c rfl tf_24_3 rfl rfl ?_))
        first | (refine AOps.st 40 rfl rfl rfl (op_load_m1 (i := 0) rfl ta_22 rfl rfl rfl ?_)) | (refine AOps.st 40 rfl rfl rfl (op_load_m1 (i := 1) rfl ta_22 rfl rfl rfl ?_)) | (refine AOps.st 40 rfl rfl rfl (op_load_m1 (i := 2) rfl ta_22 rfl rfl rfl ?_)) | (refine AOps.st 40 rfl rfl rfl (op_load_m1 (i := 3) rfl ta_22 rfl rfl rfl ?_)) | (refine AOps.st 40 rfl rfl rfl (op_load_m1 (i := 4) rfl ta_22 rfl rfl rfl ?_)) | (refine AOps.st 40 rfl rfl rfl (op_load_m1 (i := 5) rfl ta_22 rfl rfl rfl ?_)) | (refine AOps.st 40 rfl rfl rfl (op_load_c1 rfl ta_22 rfl rfl ?_))
        refine AOps.st 41 rfl rfl rfl (op_move rfl rfl ?_)
        first | (refine AOps.st 42 rfl rfl rfl (op_index rfl te_22 rfl (.seq _ _) rfl rfl (by assumption) ?_)) | (refine AOps.st 42 rfl rfl rfl (op_index (i := 0) rfl te_22 rfl (.seq _ _) rfl rfl (by first | rfl | assumption) ?_)) | (refine AOps.st 42 rfl rfl rfl (op_index (i := 1) rfl te_22 rfl (.seq _ _) rfl rfl (by first | rfl | assumption) ?_)) | (refine AOps.st 42 rfl rfl rfl (op_index rfl te_22 rfl (.own _ _ _) rfl rfl (by assumption) ?_)) | (refine AOps.st 42 rfl rfl rfl (op_index (i := 0) rfl te_22 rfl (.own _ _ _) rfl rfl (by first | rfl | assumption) ?_)) | (refine AOps.st 42 rfl rfl rfl (op_index (i := 1) rfl te_22 rfl (.own _ _ _) rfl rfl (by first | rfl | assumption) ?_)) | (refine AOps.st 42 rfl rfl rfl (op_index_arr rfl te_22 rfl rfl rfl (by omega) ?_))
        first | (refine AOps.st 43 rfl rfl rfl (op_load_m (i := 0) rfl ta_24 rfl rfl rfl rfl ?_)) | (refine AOps.st 43 rfl rfl rfl (op_load_m (i := 1) rfl ta_24 rfl rfl rfl rfl ?_)) | (refine AOps.st 43 rfl rfl rfl (op_load_m (i := 2) rfl ta_24 rfl rfl rfl rfl ?_)) | (refine AOps.st 43 rfl rfl rfl (op_load_m (i := 3) rfl ta_24 rfl rfl rfl rfl ?_)) | (refine AOps.st 43 rfl rfl rfl (op_load_m (i := 4) rfl ta_24 rfl rfl rfl rfl ?_)) | (refine AOps.st 43 rfl rfl rfl (op_load_m (i := 5) rfl ta_24 rfl rfl rfl rfl ?_)) | (refine AOps.st 43 rfl rfl rfl (op_load_c rfl ta_24 rfl rfl rfl ?_))
        refine AOps.st 44 rfl rfl rfl (op_callp (xs := [.tmp 38, .tmp 43]) rfl rfl (H) (by first | exact Les.refl _ | (repeat' (first | exact Les.refl _ | refine Les.cons ?_ ?_ | exact Le.refl _ | exact Le.own _ _ _ | exact Le.nil _ | refine Le.agg ?_))) ?_)
        refine AOps.st 45 rfl rfl rfl (op_buildSlice (xs := [.tmp 44]) el_22 rfl rfl rfl rfl rfl rfl (Nat.le_of_ble_eq_true rfl) ?_)
        first | (refine AOps.st 46 rfl rfl rfl (op_append (i := 0) el_22 rfl rfl rfl rfl (.seq _ _) (by simp [Ty.cellss_len, Ty.turns_len]; omega) ?_)) | (refine AOps.st 46 rfl rfl rfl (op_append (i := 1) el_22 rfl rfl rfl rfl (.seq _ _) (by simp [Ty.cellss_len, Ty.turns_len]; omega) ?_)) | (refine AOps.st 46 rfl rfl rfl (op_append (i := 2) el_22 rfl rfl rfl rfl (.seq _ _) (by simp [Ty.cellss_len, Ty.turns_len]; omega) ?_)) | (refine AOps.st 46 rfl rfl rfl (op_append (i := 3) el_22 rfl rfl rfl rfl (.seq _ _) (by simp [Ty.cellss_len, Ty.turns_len]; omega) ?_)) | (refine AOps.st 46 rfl rfl rfl (op_append (i := 0) el_22 rfl rfl rfl rfl (.own _ _ _) (by simp [Ty.cellss_len, Ty.turns_len]; omega) ?_)) | (refine AOps.st 46 rfl rfl rfl (op_append (i := 1) el_22 rfl rfl rfl rfl (.own _ _ _) (by simp [Ty.cellss_len, Ty.turns_len]; omega) ?_)) | (refine AOps.st 46 rfl rfl rfl (op_append (i := 2) el_22 rfl rfl rfl rfl (.own _ _ _) (by simp [Ty.cellss_len, Ty.turns_len]; omega) ?_)) | (refine AOps.st 46 rfl rfl rfl (op_append (i := 3) el_22 rfl rfl rfl rfl (.own _ _ _) (by simp [Ty.cellss_len, Ty.turns_len]; omega) ?_)) | (refine AOps.st 46 rfl rfl rfl (op_append (i := 0) el_22 rfl rfl rfl rfl (.nil _) (by simp [Ty.cellss_len, Ty.turns_len]; omega) ?_)) | (refine AOps.st 46 rfl rfl rfl (op_append (i := 1) el_22 rfl rfl rfl rfl (.nil _) (by simp [Ty.cellss_len, Ty.turns_len]; omega) ?_)) | (refine AOps.st 46 rfl rfl rfl (op_append (i := 2) el_22 rfl rfl rfl rfl (.nil _) (by simp [Ty.cellss_len, Ty.turns_len]; omega) ?_)) | (refine AOps.st 46 rfl rfl rfl (op_append (i := 3) el_22 rfl rfl rfl rfl (.nil _) (by simp [Ty.cellss_len, Ty.turns_len]; omega) ?_)) | (refine AOps.st 46 rfl rfl rfl (op_append_nil el_22 rfl rfl rfl (.seq _ _) (by simp [Ty.cellss_len, Ty.turns_len]; omega) ?_)) | (refine AOps.st 46 rfl rfl rfl (op_append_nil el_22 rfl rfl rfl (.own _ _ _) (by simp [Ty.cellss_len, Ty.turns_len]; omega) ?_)) | (refine AOps.st 46 rfl rfl rfl (op_append_nil el_22 rfl rfl rfl (.nil _) (by simp [Ty.cellss_len, Ty.turns_len]; omega) ?_))
        intro u46
        refine AOps.st 6 rfl rfl rfl (op_assign rfl rfl ?_)
        refine AOps.nil ?_
        refine go_blk ?_
        refine go_code ?_
        refine c_region ?_
        refine AOps.st 35 rfl rfl rfl (op_move rfl rfl ?_)
        first | (refine AOps.st 36 rfl rfl rfl (op_add rfl rfl rfl (IntWalk.i64_in _ (by omega)) ?_)) | (refine AOps.st 36 rfl rfl rfl (op_add rfl rfl rfl rfl ?_))
        refine AOps.st 7 rfl rfl rfl (op_assign rfl rfl ?_)
        refine AOps.nil ?_
        refine go_lp ?_
        exact ⟨(i + 1, u46), by simp; omega, by simp; omega, (by repeat' (first | exact SLe.nil _ | refine SLe.cons rfl ?_ ?_ | exact Le.refl _ | exact Le.own _ _ _ | exact Le.nil _ | (refine Le.own_eq ?_; (rw [he]; rfl)) | (refine Le.own_seq ?_; (rw [he]; rfl)) | (refine Le.seq_eq ?_; (rw [he]; rfl)))), (by first | exact MLe.none _ | exact MLe.refl _ | (repeat' (first | exact MLe.nil | exact MLe.refl _ | refine MLe.cons _ ?_ | refine MLe.drop _ ?_)))⟩
    · refine c_cond_t rfl ?_
      refine c_seq ?_
      refine c_region ?_
      refine AOps.st 5 rfl rfl rfl (op_assign rfl rfl ?_)
      refine AOps.nil ?_
      refine go_code ?_
      refine c_block ?_
      refine c_loop (σ := Nat) (fun zz => match zz with | i => [(0, .seq 5 (subss subs)), (3, .ptr b3 0), (4, .ptr b4 0), (5, .val (.int .i64 i))]) (fun zz => match zz with | i => [.loc b4 zTy, .loc b3 (Ty.cells (.mk k s n ks))]) (fun zz => match zz with | i => i ≤ subs.length ∧ ∀ x ∈ subs.take i, x.1 ≠ n) (fun zz => match zz with | i => subs.length - i) (0) ?_ ?_ ?_ ?_
      · exact ⟨by omega, by simp⟩
      · exact (by repeat' (first | exact SLe.nil _ | refine SLe.cons rfl ?_ ?_ | exact Le.refl _ | exact Le.own _ _ _ | exact Le.nil _))
      · exact (by first | exact MLe.none _ | exact MLe.refl _ | (repeat' (first | exact MLe.nil | exact MLe.refl _ | refine MLe.cons _ ?_ | refine MLe.drop _ ?_)))
      rintro i hI
      try dsimp only at hI ⊢
      obtain ⟨hi, hu⟩ := hI
      refine c_seq ?_
      refine c_seq ?_
      refine c_region ?_
      refine AOps.st 11 rfl rfl rfl (op_move rfl rfl ?_)
      refine AOps.st 12 rfl rfl rfl (op_move rfl rfl ?_)
      first | (refine AOps.st 13 rfl rfl rfl (op_len rfl tu_34 rfl (.seq _ _) (fun n13 => ?_))) | (refine AOps.st 13 rfl rfl rfl (op_len rfl tu_34 rfl (.own _ _ _) (fun n13 => ?_))) | (refine AOps.st 13 rfl rfl rfl (op_len rfl tu_34 rfl (.nil 0) (fun n13 => ?_))) | (refine AOps.st 13 rfl rfl rfl (op_len_arr rfl tu_34 rfl ?_))
      refine AOps.st 14 rfl rfl rfl (op_lss rfl rfl rfl ?_); intro c14 h14
      refine AOps.nil ?_
      refine go_code ?_
      rcases bool_split h14 with ⟨rfl, g14⟩ | ⟨rfl, g14⟩
      · refine c_cond_f rfl ?_
        refine c_exit ?_
        refine x_code ?_
        refine x_lp ?_
        refine x_here ?_
        refine go_code ?_
        refine c_seq ?_
        have hN : applyO subs (.mk k s n ks) = none := by
          first
            | exact applyO_not g10
            | exact applyO_out (by rwa [List.take_of_length_le (by omega)] at hu)
        refine c_region ?_
        refine AOps.st 6 rfl rfl rfl (op_assign rfl rfl ?_)
        refine AOps.nil ?_
        refine go_code ?_
        refine c_seq ?_
        refine c_seq ?_
        refine c_region ?_
        refine AOps.st 7 rfl rfl rfl (op_assign rfl rfl ?_)
        refine AOps.nil ?_
        refine go_code ?_
        refine c_block ?_
        refine ACode.ownNil (t := 6) 24 4 rfl ?_
        refine c_loop (σ := Nat × Value) (fun zz => match zz with | (i, u) => [(0, .seq 5 (subss subs)), (3, .ptr b3 0), (4, .ptr b4 0), (6, .own u 4 (Ty.cellss (Ty.turns (applyO subs) (ks.take i)))), (7, .val (.int .i64 i))]) (fun zz => match zz with | (i, u) => [.own 24 4 u, .loc b4 zTy, .loc b3 (Ty.cells (.mk k s n ks))]) (fun zz => match zz with | (i, u) => i ≤ ks.length) (fun zz => match zz with | (i, u) => ks.length - i) ((0, .slice none 0 0)) ?_ ?_ ?_ ?_
        · simp
        · exact (by repeat' (first | exact SLe.nil _ | refine SLe.cons rfl ?_ ?_ | exact Le.refl _ | exact Le.own _ _ _ | exact Le.nil _))
        · exact (by first | exact MLe.none _ | exact MLe.refl _ | (repeat' (first | exact MLe.nil | exact MLe.refl _ | refine MLe.cons _ ?_ | refine MLe.drop _ ?_)))
        rintro ⟨i, u⟩ hI
        try dsimp only at hI ⊢
        refine c_seq ?_
        refine c_seq ?_
        refine c_region ?_
        refine AOps.st 30 rfl rfl rfl (op_move rfl rfl ?_)
        first | (refine AOps.st 31 rfl rfl rfl (op_fieldAddr_m rfl tf_24_3 rfl ?_)) | (refine AOps.st 31 rfl rfl rfl (op_fieldAddr_c rfl tf_24_3 rfl rfl ?_))
        first | (refine AOps.st 32 rfl rfl rfl (op_load_m1 (i := 0) rfl ta_22 rfl rfl rfl ?_)) | (refine AOps.st 32 rfl rfl rfl (op_load_m1 (i := 1) rfl ta_22 rfl rfl rfl ?_)) | (refine AOps.st 32 rfl rfl rfl (op_load_m1 (i := 2) rfl ta_22 rfl rfl rfl ?_)) | (refine AOps.st 32 rfl rfl rfl (op_load_m1 (i := 3) rfl ta_22 rfl rfl rfl ?_)) | (refine AOps.st 32 rfl rfl rfl (op_load_m1 (i := 4) rfl ta_22 rfl rfl rfl ?_)) | (refine AOps.st 32 rfl rfl rfl (op_load_m1 (i := 5) rfl ta_22 rfl rfl rfl ?_)) | (refine AOps.st 32 rfl rfl rfl (op_load_c1 rfl ta_22 rfl rfl ?_))
        first | (refine AOps.st 33 rfl rfl rfl (op_len rfl tu_22 rfl (.seq _ _) (fun n33 => ?_))) | (refine AOps.st 33 rfl rfl rfl (op_len rfl tu_22 rfl (.own _ _ _) (fun n33 => ?_))) | (refine AOps.st 33 rfl rfl rfl (op_len rfl tu_22 rfl (.nil 0) (fun n33 => ?_))) | (refine AOps.st 33 rfl rfl rfl (op_len_arr rfl tu_22 rfl ?_))
        refine AOps.st 34 rfl rfl rfl (op_lss rfl rfl rfl ?_); intro c34 h34
        refine AOps.nil ?_
        refine go_code ?_
        rcases bool_split h34 with ⟨rfl, g34⟩ | ⟨rfl, g34⟩
        · refine c_cond_f rfl ?_
          refine c_exit ?_
          refine x_code ?_
          refine x_lp ?_
          refine x_here ?_
          refine go_code ?_
          refine c_seq ?_
          rw [List.take_of_length_le (by omega)]
          refine c_region ?_
          first | (refine AOps.st 47 rfl rfl rfl (op_load_m (i := 0) rfl ta_24 rfl rfl rfl rfl ?_)) | (refine AOps.st 47 rfl rfl rfl (op_load_m (i := 1) rfl ta_24 rfl rfl rfl rfl ?_)) | (refine AOps.st 47 rfl rfl rfl (op_load_m (i := 2) rfl ta_24 rfl rfl rfl rfl ?_)) | (refine AOps.st 47 rfl rfl rfl (op_load_m (i := 3) rfl ta_24 rfl rfl rfl rfl ?_)) | (refine AOps.st 47 rfl rfl rfl (op_load_m (i := 4) rfl ta_24 rfl rfl rfl rfl ?_)) | (refine AOps.st 47 rfl rfl rfl (op_load_m (i := 5) rfl ta_24 rfl rfl rfl rfl ?_)) | (refine AOps.st 47 rfl rfl rfl (op_load_c rfl ta_24 rfl rfl rfl ?_))
          refine AOps.st 48 rfl rfl rfl (op_move rfl rfl ?_)
          refine AOps.st 49 rfl rfl rfl (op_callp (xs := [.tmp 47, .tmp 48]) rfl rfl (kids_c (.mk k s n ks) (Ty.turns (applyO subs) ks)) (by first | exact Les.refl _ | (repeat' (first | exact Les.refl _ | refine Les.cons ?_ ?_ | exact Le.refl _ | exact Le.own _ _ _ | exact Le.nil _ | refine Le.agg ?_))) ?_)
          first | (refine AOps.st0 rfl rfl (op_store (i := 0) rfl ts_24 rfl rfl rfl rfl rfl (Nat.le_of_ble_eq_true rfl) rfl ?_)) | (refine AOps.st0 rfl rfl (op_store (i := 1) rfl ts_24 rfl rfl rfl rfl rfl (Nat.le_of_ble_eq_true rfl) rfl ?_)) | (refine AOps.st0 rfl rfl (op_store (i := 2) rfl ts_24 rfl rfl rfl rfl rfl (Nat.le_of_ble_eq_true rfl) rfl ?_)) | (refine AOps.st0 rfl rfl (op_store (i := 3) rfl ts_24 rfl rfl rfl rfl rfl (Nat.le_of_ble_eq_true rfl) rfl ?_)) | (refine AOps.st0 rfl rfl (op_store (i := 4) rfl ts_24 rfl rfl rfl rfl rfl (Nat.le_of_ble_eq_true rfl) rfl ?_)) | (refine AOps.st0 rfl rfl (op_store (i := 5) rfl ts_24 rfl rfl rfl rfl rfl (Nat.le_of_ble_eq_true rfl) rfl ?_))
          refine AOps.nil ?_
          refine go_code ?_
          refine c_ret ?_
          rw [Ty.turn_none hN]
          exact out_cell (i := 1) rfl rfl rfl ta_24 rfl (by repeat' (first | exact Le.refl _ | exact Le.own _ _ _ | exact Le.nil _ | refine Le.agg ?_ | refine Le.tup ?_ | exact Les.refl _ | refine Les.cons ?_ ?_)) (by first | exact MLe.none _ | exact MLe.refl _ | (repeat' (first | exact MLe.nil | exact MLe.refl _ | refine MLe.cons _ ?_ | refine MLe.drop _ ?_))) ⟨rfl, rfl⟩
        · refine c_cond_t rfl ?_
          refine c_skip ?_
          refine go_code ?_
          refine c_seq ?_
          refine c_block ?_
          obtain ⟨⟨k', s', n', ks'⟩, hx⟩ := get_some (l := ks) (i := i) (by omega)
          have hcx := Ty.cellss_get hx
          have hsz := Ty.size_at hx
          have H := ih (.mk k' s' n' ks') (by omega) (by omega)
          have he : Ty.cellss (Ty.turns (applyO subs) (ks.take (i + 1))) = Ty.cellss (Ty.turns (applyO subs) (ks.take i)) ++ [(Ty.turn (applyO subs) (.mk k' s' n' ks')).cells] := by rw [take_snoc hx, Ty.turns_snoc, Ty.cellss_app]; rfl
          generalize Ty.turn (applyO subs) (.mk k' s' n' ks') = r at H he
          obtain ⟨rk, rs, rn, rks⟩ := r
          refine c_region ?_
          refine AOps.st 37 rfl rfl rfl (op_move rfl rfl ?_)
          refine AOps.st 38 rfl rfl rfl (op_move rfl rfl ?_)
          first | (refine AOps.st 39 rfl rfl rfl (op_fieldAddr_m rfl tf_24_3 rfl ?_)) | (refine AOps.st 39 rfl rfl rfl (op_fieldAddr_c rfl tf_24_3 rfl rfl ?_))
          first | (refine AOps.st 40 rfl rfl rfl (op_load_m1 (i := 0) rfl ta_22 rfl rfl rfl ?_)) | (refine AOps.st 40 rfl rfl rfl (op_load_m1 (i := 1) rfl ta_22 rfl rfl rfl ?_)) | (refine AOps.st 40 rfl rfl rfl (op_load_m1 (i := 2) rfl ta_22 rfl rfl rfl ?_)) | (refine AOps.st 40 rfl rfl rfl (op_load_m1 (i := 3) rfl ta_22 rfl rfl rfl ?_)) | (refine AOps.st 40 rfl rfl rfl (op_load_m1 (i := 4) rfl ta_22 rfl rfl rfl ?_)) | (refine AOps.st 40 rfl rfl rfl (op_load_m1 (i := 5) rfl ta_22 rfl rfl rfl ?_)) | (refine AOps.st 40 rfl rfl rfl (op_load_c1 rfl ta_22 rfl rfl ?_))
          refine AOps.st 41 rfl rfl rfl (op_move rfl rfl ?_)
          first | (refine AOps.st 42 rfl rfl rfl (op_index rfl te_22 rfl (.seq _ _) rfl rfl (by assumption) ?_)) | (refine AOps.st 42 rfl rfl rfl (op_index (i := 0) rfl te_22 rfl (.seq _ _) rfl rfl (by first | rfl | assumption) ?_)) | (refine AOps.st 42 rfl rfl rfl (op_index (i := 1) rfl te_22 rfl (.seq _ _) rfl rfl (by first | rfl | assumption) ?_)) | (refine AOps.st 42 rfl rfl rfl (op_index rfl te_22 rfl (.own _ _ _) rfl rfl (by assumption) ?_)) | (refine AOps.st 42 rfl rfl rfl (op_index (i := 0) rfl te_22 rfl (.own _ _ _) rfl rfl (by first | rfl | assumption) ?_)) | (refine AOps.st 42 rfl rfl rfl (op_index (i := 1) rfl te_22 rfl (.own _ _ _) rfl rfl (by first | rfl | assumption) ?_)) | (refine AOps.st 42 rfl rfl rfl (op_index_arr rfl te_22 rfl rfl rfl (by omega) ?_))
          first | (refine AOps.st 43 rfl rfl rfl (op_load_m (i := 0) rfl ta_24 rfl rfl rfl rfl ?_)) | (refine AOps.st 43 rfl rfl rfl (op_load_m (i := 1) rfl ta_24 rfl rfl rfl rfl ?_)) | (refine AOps.st 43 rfl rfl rfl (op_load_m (i := 2) rfl ta_24 rfl rfl rfl rfl ?_)) | (refine AOps.st 43 rfl rfl rfl (op_load_m (i := 3) rfl ta_24 rfl rfl rfl rfl ?_)) | (refine AOps.st 43 rfl rfl rfl (op_load_m (i := 4) rfl ta_24 rfl rfl rfl rfl ?_)) | (refine AOps.st 43 rfl rfl rfl (op_load_m (i := 5) rfl ta_24 rfl rfl rfl rfl ?_)) | (refine AOps.st 43 rfl rfl rfl (op_load_c rfl ta_24 rfl rfl rfl ?_))
          refine AOps.st 44 rfl rfl rfl (op_callp (xs := [.tmp 38, .tmp 43]) rfl rfl (H) (by first | exact Les.refl _ | (repeat' (first | exact Les.refl _ | refine Les.cons ?_ ?_ | exact Le.refl _ | exact Le.own _ _ _ | exact Le.nil _ | refine Le.agg ?_))) ?_)
          refine AOps.st 45 rfl rfl rfl (op_buildSlice (xs := [.tmp 44]) el_22 rfl rfl rfl rfl rfl rfl (Nat.le_of_ble_eq_true rfl) ?_)
          first | (refine AOps.st 46 rfl rfl rfl (op_append (i := 0) el_22 rfl rfl rfl rfl (.seq _ _) (by simp [Ty.cellss_len, Ty.turns_len]; omega) ?_)) | (refine AOps.st 46 rfl rfl rfl (op_append (i := 1) el_22 rfl rfl rfl rfl (.seq _ _) (by simp [Ty.cellss_len, Ty.turns_len]; omega) ?_)) | (refine AOps.st 46 rfl rfl rfl (op_append (i := 2) el_22 rfl rfl rfl rfl (.seq _ _) (by simp [Ty.cellss_len, Ty.turns_len]; omega) ?_)) | (refine AOps.st 46 rfl rfl rfl (op_append (i := 3) el_22 rfl rfl rfl rfl (.seq _ _) (by simp [Ty.cellss_len, Ty.turns_len]; omega) ?_)) | (refine AOps.st 46 rfl rfl rfl (op_append (i := 0) el_22 rfl rfl rfl rfl (.own _ _ _) (by simp [Ty.cellss_len, Ty.turns_len]; omega) ?_)) | (refine AOps.st 46 rfl rfl rfl (op_append (i := 1) el_22 rfl rfl rfl rfl (.own _ _ _) (by simp [Ty.cellss_len, Ty.turns_len]; omega) ?_)) | (refine AOps.st 46 rfl rfl rfl (op_append (i := 2) el_22 rfl rfl rfl rfl (.own _ _ _) (by simp [Ty.cellss_len, Ty.turns_len]; omega) ?_)) | (refine AOps.st 46 rfl rfl rfl (op_append (i := 3) el_22 rfl rfl rfl rfl (.own _ _ _) (by simp [Ty.cellss_len, Ty.turns_len]; omega) ?_)) | (refine AOps.st 46 rfl rfl rfl (op_append (i := 0) el_22 rfl rfl rfl rfl (.nil _) (by simp [Ty.cellss_len, Ty.turns_len]; omega) ?_)) | (refine AOps.st 46 rfl rfl rfl (op_append (i := 1) el_22 rfl rfl rfl rfl (.nil _) (by simp [Ty.cellss_len, Ty.turns_len]; omega) ?_)) | (refine AOps.st 46 rfl rfl rfl (op_append (i := 2) el_22 rfl rfl rfl rfl (.nil _) (by simp [Ty.cellss_len, Ty.turns_len]; omega) ?_)) | (refine AOps.st 46 rfl rfl rfl (op_append (i := 3) el_22 rfl rfl rfl rfl (.nil _) (by simp [Ty.cellss_len, Ty.turns_len]; omega) ?_)) | (refine AOps.st 46 rfl rfl rfl (op_append_nil el_22 rfl rfl rfl (.seq _ _) (by simp [Ty.cellss_len, Ty.turns_len]; omega) ?_)) | (refine AOps.st 46 rfl rfl rfl (op_append_nil el_22 rfl rfl rfl (.own _ _ _) (by simp [Ty.cellss_len, Ty.turns_len]; omega) ?_)) | (refine AOps.st 46 rfl rfl rfl (op_append_nil el_22 rfl rfl rfl (.nil _) (by simp [Ty.cellss_len, Ty.turns_len]; omega) ?_))
          intro u46
          refine AOps.st 6 rfl rfl rfl (op_assign rfl rfl ?_)
          refine AOps.nil ?_
          refine go_blk ?_
          refine go_code ?_
          refine c_region ?_
          refine AOps.st 35 rfl rfl rfl (op_move rfl rfl ?_)
          first | (refine AOps.st 36 rfl rfl rfl (op_add rfl rfl rfl (IntWalk.i64_in _ (by omega)) ?_)) | (refine AOps.st 36 rfl rfl rfl (op_add rfl rfl rfl rfl ?_))
          refine AOps.st 7 rfl rfl rfl (op_assign rfl rfl ?_)
          refine AOps.nil ?_
          refine go_lp ?_
          exact ⟨(i + 1, u46), by simp; omega, by simp; omega, (by repeat' (first | exact SLe.nil _ | refine SLe.cons rfl ?_ ?_ | exact Le.refl _ | exact Le.own _ _ _ | exact Le.nil _ | (refine Le.own_eq ?_; (rw [he]; rfl)) | (refine Le.own_seq ?_; (rw [he]; rfl)) | (refine Le.seq_eq ?_; (rw [he]; rfl)))), (by first | exact MLe.none _ | exact MLe.refl _ | (repeat' (first | exact MLe.nil | exact MLe.refl _ | refine MLe.cons _ ?_ | refine MLe.drop _ ?_)))⟩
      · refine c_cond_t rfl ?_
        refine c_skip ?_
        refine go_code ?_
        refine c_seq ?_
        refine c_block ?_
        refine c_seq ?_
        obtain ⟨⟨pn, ⟨yk, ys, yn, yks⟩⟩, hy⟩ := get_some (l := subs) (i := i) (by omega)
        have hcy := subss_get hy
        refine c_drawn tmix rfl ?_
        refine DOps.st 17 rfl rfl (op_move rfl rfl ⟨rfl, rfl⟩) ?_
        refine DOps.st 18 rfl rfl (op_move rfl rfl ⟨rfl, rfl⟩) ?_
        first | (refine DOps.st 19 rfl rfl (op_index rfl te_34 rfl (.seq _ _) rfl rfl (by assumption) ⟨rfl, rfl⟩) ?_) | (refine DOps.st 19 rfl rfl (op_index (i := 0) rfl te_34 rfl (.seq _ _) rfl rfl (by first | rfl | assumption) ⟨rfl, rfl⟩) ?_) | (refine DOps.st 19 rfl rfl (op_index (i := 1) rfl te_34 rfl (.seq _ _) rfl rfl (by first | rfl | assumption) ⟨rfl, rfl⟩) ?_) | (refine DOps.st 19 rfl rfl (op_index rfl te_34 rfl (.own _ _ _) rfl rfl (by assumption) ⟨rfl, rfl⟩) ?_) | (refine DOps.st 19 rfl rfl (op_index (i := 0) rfl te_34 rfl (.own _ _ _) rfl rfl (by first | rfl | assumption) ⟨rfl, rfl⟩) ?_) | (refine DOps.st 19 rfl rfl (op_index (i := 1) rfl te_34 rfl (.own _ _ _) rfl rfl (by first | rfl | assumption) ⟨rfl, rfl⟩) ?_) | (refine DOps.st 19 rfl rfl (op_index_arr rfl te_34 rfl rfl rfl (by omega) ⟨rfl, rfl⟩) ?_)
        first | (refine DOps.st 20 rfl rfl (op_fieldAddr_m rfl tf_53_0 rfl ⟨rfl, rfl⟩) ?_) | (refine DOps.st 20 rfl rfl (op_fieldAddr_c rfl tf_53_0 rfl rfl ⟨rfl, rfl⟩) ?_)
        first | (refine DOps.st 21 rfl rfl (op_load_m1 (i := 0) rfl ta_3 rfl rfl rfl ⟨rfl, rfl⟩) ?_) | (refine DOps.st 21 rfl rfl (op_load_m1 (i := 1) rfl ta_3 rfl rfl rfl ⟨rfl, rfl⟩) ?_) | (refine DOps.st 21 rfl rfl (op_load_m1 (i := 2) rfl ta_3 rfl rfl rfl ⟨rfl, rfl⟩) ?_) | (refine DOps.st 21 rfl rfl (op_load_m1 (i := 3) rfl ta_3 rfl rfl rfl ⟨rfl, rfl⟩) ?_) | (refine DOps.st 21 rfl rfl (op_load_m1 (i := 4) rfl ta_3 rfl rfl rfl ⟨rfl, rfl⟩) ?_) | (refine DOps.st 21 rfl rfl (op_load_m1 (i := 5) rfl ta_3 rfl rfl rfl ⟨rfl, rfl⟩) ?_) | (refine DOps.st 21 rfl rfl (op_load_c1 rfl ta_3 rfl rfl ⟨rfl, rfl⟩) ?_)
        first | (refine DOps.st 22 rfl rfl (op_fieldAddr_m rfl tf_24_2 rfl ⟨rfl, rfl⟩) ?_) | (refine DOps.st 22 rfl rfl (op_fieldAddr_c rfl tf_24_2 rfl rfl ⟨rfl, rfl⟩) ?_)
        first | (refine DOps.st 23 rfl rfl (op_load_m1 (i := 0) rfl ta_3 rfl rfl rfl ⟨rfl, rfl⟩) ?_) | (refine DOps.st 23 rfl rfl (op_load_m1 (i := 1) rfl ta_3 rfl rfl rfl ⟨rfl, rfl⟩) ?_) | (refine DOps.st 23 rfl rfl (op_load_m1 (i := 2) rfl ta_3 rfl rfl rfl ⟨rfl, rfl⟩) ?_) | (refine DOps.st 23 rfl rfl (op_load_m1 (i := 3) rfl ta_3 rfl rfl rfl ⟨rfl, rfl⟩) ?_) | (refine DOps.st 23 rfl rfl (op_load_m1 (i := 4) rfl ta_3 rfl rfl rfl ⟨rfl, rfl⟩) ?_) | (refine DOps.st 23 rfl rfl (op_load_m1 (i := 5) rfl ta_3 rfl rfl rfl ⟨rfl, rfl⟩) ?_) | (refine DOps.st 23 rfl rfl (op_load_c1 rfl ta_3 rfl rfl ⟨rfl, rfl⟩) ?_)
        refine DOps.cm 24 rfl rfl (fun _ q => op_eql rfl rfl rfl q) ?_; intro c24 h24
        show AGo _ _ _ _ _ _
        refine go_code ?_
        rcases bool_split h24 with ⟨rfl, g24⟩ | ⟨rfl, g24⟩
        · refine c_cond_f rfl ?_
          refine c_skip ?_
          refine go_blk ?_
          refine go_code ?_
          refine c_region ?_
          refine AOps.st 15 rfl rfl rfl (op_move rfl rfl ?_)
          first | (refine AOps.st 16 rfl rfl rfl (op_add rfl rfl rfl (IntWalk.i64_in _ (by omega)) ?_)) | (refine AOps.st 16 rfl rfl rfl (op_add rfl rfl rfl rfl ?_))
          refine AOps.st 5 rfl rfl rfl (op_assign rfl rfl ?_)
          refine AOps.nil ?_
          refine go_lp ?_
          refine ⟨i + 1, ⟨by omega, ?_⟩, by simp; omega, (by repeat' (first | exact SLe.nil _ | refine SLe.cons rfl ?_ ?_ | exact Le.refl _ | exact Le.own _ _ _ | exact Le.nil _)), (by first | exact MLe.none _ | exact MLe.refl _ | (repeat' (first | exact MLe.nil | exact MLe.refl _ | refine MLe.cons _ ?_ | refine MLe.drop _ ?_)))⟩
          rw [take_snoc hy]
          intro x hx
          rcases List.mem_append.1 hx with q | q
          · exact hu x q
          · simp at q; subst q; exact g24
        · refine c_cond_t rfl ?_
          refine c_seq ?_
          refine c_region ?_
          refine AOps.st 25 rfl rfl rfl (op_move rfl rfl ?_)
          refine AOps.st 26 rfl rfl rfl (op_move rfl rfl ?_)
          first | (refine AOps.st 27 rfl rfl rfl (op_index rfl te_34 rfl (.seq _ _) rfl rfl (by assumption) ?_)) | (refine AOps.st 27 rfl rfl rfl (op_index (i := 0) rfl te_34 rfl (.seq _ _) rfl rfl (by first | rfl | assumption) ?_)) | (refine AOps.st 27 rfl rfl rfl (op_index (i := 1) rfl te_34 rfl (.seq _ _) rfl rfl (by first | rfl | assumption) ?_)) | (refine AOps.st 27 rfl rfl rfl (op_index rfl te_34 rfl (.own _ _ _) rfl rfl (by assumption) ?_)) | (refine AOps.st 27 rfl rfl rfl (op_index (i := 0) rfl te_34 rfl (.own _ _ _) rfl rfl (by first | rfl | assumption) ?_)) | (refine AOps.st 27 rfl rfl rfl (op_index (i := 1) rfl te_34 rfl (.own _ _ _) rfl rfl (by first | rfl | assumption) ?_)) | (refine AOps.st 27 rfl rfl rfl (op_index_arr rfl te_34 rfl rfl rfl (by omega) ?_))
          first | (refine AOps.st 28 rfl rfl rfl (op_fieldAddr_m rfl tf_53_1 rfl ?_)) | (refine AOps.st 28 rfl rfl rfl (op_fieldAddr_c rfl tf_53_1 rfl rfl ?_))
          first | (refine AOps.st 29 rfl rfl rfl (op_load_m (i := 0) rfl ta_24 rfl rfl rfl rfl ?_)) | (refine AOps.st 29 rfl rfl rfl (op_load_m (i := 1) rfl ta_24 rfl rfl rfl rfl ?_)) | (refine AOps.st 29 rfl rfl rfl (op_load_m (i := 2) rfl ta_24 rfl rfl rfl rfl ?_)) | (refine AOps.st 29 rfl rfl rfl (op_load_m (i := 3) rfl ta_24 rfl rfl rfl rfl ?_)) | (refine AOps.st 29 rfl rfl rfl (op_load_m (i := 4) rfl ta_24 rfl rfl rfl rfl ?_)) | (refine AOps.st 29 rfl rfl rfl (op_load_m (i := 5) rfl ta_24 rfl rfl rfl rfl ?_)) | (refine AOps.st 29 rfl rfl rfl (op_load_c rfl ta_24 rfl rfl rfl ?_))
          first | (refine AOps.st0 rfl rfl (op_store (i := 0) rfl ts_24 rfl rfl rfl rfl rfl (Nat.le_of_ble_eq_true rfl) rfl ?_)) | (refine AOps.st0 rfl rfl (op_store (i := 1) rfl ts_24 rfl rfl rfl rfl rfl (Nat.le_of_ble_eq_true rfl) rfl ?_)) | (refine AOps.st0 rfl rfl (op_store (i := 2) rfl ts_24 rfl rfl rfl rfl rfl (Nat.le_of_ble_eq_true rfl) rfl ?_)) | (refine AOps.st0 rfl rfl (op_store (i := 3) rfl ts_24 rfl rfl rfl rfl rfl (Nat.le_of_ble_eq_true rfl) rfl ?_)) | (refine AOps.st0 rfl rfl (op_store (i := 4) rfl ts_24 rfl rfl rfl rfl rfl (Nat.le_of_ble_eq_true rfl) rfl ?_)) | (refine AOps.st0 rfl rfl (op_store (i := 5) rfl ts_24 rfl rfl rfl rfl rfl (Nat.le_of_ble_eq_true rfl) rfl ?_))
          refine AOps.nil ?_
          refine go_code ?_
          refine c_ret ?_
          have hR : Ty.turn (applyO subs) (.mk k s n ks) = .mk yk ys yn yks := by
            refine Ty.turn_some ?_
            rw [g10]; exact applyO_at hu hy g24
          rw [hR]
          exact out_cell (i := 0) rfl rfl rfl ta_24 rfl (by repeat' (first | exact Le.refl _ | exact Le.own _ _ _ | exact Le.nil _ | refine Le.agg ?_ | refine Le.tup ?_ | exact Les.refl _ | refine Les.cons ?_ ?_)) (by first | exact MLe.none _ | exact MLe.refl _ | (repeat' (first | exact MLe.nil | exact MLe.refl _ | refine MLe.cons _ ?_ | refine MLe.drop _ ?_))) ⟨rfl, rfl⟩
end Go.Proofs.Ytjgjnheeohfmmaa
