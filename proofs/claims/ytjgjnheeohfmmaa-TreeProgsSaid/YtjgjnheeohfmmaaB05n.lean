/- tree.Names, cognateref05.Names; tree.search; tree.Free -/
import Derived.Test.YtjgjnheeohfmmaaB05e
import Derived.Test.YtjgjnheeohfmmaaAL11
import Derived.Test.YtjgjnheeohfmmaaPF
import Derived.Test.YtjgjnheeohfmmaaB08a
namespace Go.Proofs.Ytjgjnheeohfmmaa
open Go.RowKit
theorem strs_take (a : List Txt) (n : Nat) : (strs a).take n = strs (a.take n) := by simp [strs, List.map_take]
set_option maxHeartbeats 4000000 in
set_option maxRecDepth 100000 in
theorem tNames_c (q : Pa) : q.size ≤ 10000000000 → OCall Try.prog 50 [.agg q.cells] 9 1 (strs q.names) := by
  obtain ⟨k, s, n, ks, p⟩ := q
  intro hs
  rw [Pa.size] at hs
  have IH : ∀ x ∈ ks, OCall Try.prog 50 [.agg x.cells] 9 1 (strs x.names) := fun x hx => tNames_c x (by have := Pa.size_kid hx; omega)
  have hl := Pa.cellss_len ks
  rw [Pa.names]
  obtain ⟨H, hH⟩ : ∃ H, H = (if k = 2 then [s] else []) := ⟨_, rfl⟩
  have hHl : H.length ≤ 1 := by rw [hH]; split <;> simp
  rw [← hH]
  refine ACall.enter Try.func50 rfl (by kernel_rfl) rfl (Nat.le_of_ble_eq_true rfl) ?_
  refine c_start ?_
  refine c_lena (t := 0) (j := 3) rfl rfl (.seq _ _) (fun hmax => ?_)
  refine c_seq ?_
  refine c_region ?_
  refine AOps.st 1 rfl rfl rfl (op_boxc (cs' := [_, _, _, _, _]) rfl rfl rfl rfl ?_)
  refine AOps.st 2 rfl rfl rfl (op_assign rfl rfl ?_)
  refine AOps.nil ?_
  refine go_code ?_
  refine c_seq ?_
  refine c_region ?_
  refine AOps.st 3 rfl rfl rfl (op_assign rfl rfl ?_)
  refine AOps.nil ?_
  refine go_code ?_
  refine c_seq ?_
  refine c_seq ?_
  refine ACode.ownNil (t := 3) 9 1 rfl ?_
  refine c_region ?_
  refine AOps.st 6 rfl rfl rfl (op_fieldAddr_c rfl tf_68_0 rfl rfl ?_)
  refine AOps.st 7 rfl rfl rfl (op_load_c1 rfl ta_3 rfl rfl ?_)
  refine AOps.st 8 rfl rfl rfl (op_eql rfl rfl rfl ?_); intro c8 h8
  refine AOps.nil ?_
  refine go_code ?_
  rcases bool_split h8 with ⟨rfl, g8⟩ | ⟨rfl, g8⟩
  · refine c_cond_f rfl ?_
    refine c_skip ?_
    refine go_code ?_
    refine c_seq ?_
    refine c_seq ?_
    refine c_region ?_
    refine AOps.st 14 rfl rfl rfl (op_fieldAddr_c rfl tf_68_3 rfl rfl ?_)
    refine AOps.st 15 rfl rfl rfl (op_load_c1 rfl ta_66 rfl rfl ?_)
    refine AOps.st 16 rfl rfl rfl (op_len rfl tu_66 rfl (.seq _ _) (fun n16 => ?_))
    refine AOps.st 17 rfl rfl rfl (op_move rfl rfl ?_)
    refine AOps.nil ?_
    refine go_code ?_
    refine c_block ?_
    first | (refine c_loop (σ := Nat × Value) (fun zz => match zz with | (i, u) => [(3, .own u 1 (strs (H ++ Pa.namess (ks.take i)))), (15, .seq 5 (Pa.cellss ks)), (16, .val (.int .i64 (Pa.cellss ks).length)), (17, .val (.int .i64 i))]) (fun zz => match zz with | (i, u) => [.own 9 1 u]) (fun zz => match zz with | (i, u) => i ≤ ks.length) (fun zz => match zz with | (i, u) => ks.length - i) ((0, u13)) ?_ ?_ ?_ ?_) | (refine c_loop (σ := Nat × Value) (fun zz => match zz with | (i, u) => [(3, .own u 1 (strs (H ++ Pa.namess (ks.take i)))), (15, .seq 5 (Pa.cellss ks)), (16, .val (.int .i64 (Pa.cellss ks).length)), (17, .val (.int .i64 i))]) (fun zz => match zz with | (i, u) => [.own 9 1 u]) (fun zz => match zz with | (i, u) => i ≤ ks.length) (fun zz => match zz with | (i, u) => ks.length - i) ((0, .slice none 0 0)) ?_ ?_ ?_ ?_)
    · simp
    · exact (by repeat' (first | exact SLe.nil _ | refine SLe.cons rfl ?_ ?_ | exact Le.refl _ | exact Le.own _ _ _ | exact Le.nil _ | (refine Le.own_eq ?_; first | (rw [hH, if_pos g8]; rfl) | (rw [hH, if_neg g8]; rfl)) | (refine Le.own_seq ?_; first | (rw [hH, if_pos g8]; rfl) | (rw [hH, if_neg g8]; rfl)) | (refine Le.seq_eq ?_; first | (rw [hH, if_pos g8]; rfl) | (rw [hH, if_neg g8]; rfl))))
    · exact (by first | exact MLe.none _ | exact MLe.refl _ | (repeat' (first | exact MLe.nil | exact MLe.refl _ | refine MLe.cons _ ?_ | refine MLe.drop _ ?_)))
    rintro ⟨i, u⟩ hI
    try dsimp only at hI ⊢
    refine c_seq ?_
    refine c_region ?_
    refine AOps.st 18 rfl rfl rfl (op_lss rfl rfl rfl ?_); intro c18 h18
    refine AOps.nil ?_
    refine go_code ?_
    refine c_seq ?_
    rcases bool_split h18 with ⟨rfl, g18⟩ | ⟨rfl, g18⟩
    · refine c_cond_f rfl ?_
      refine c_exit ?_
      refine x_code ?_
      refine x_lp ?_
      refine x_here ?_
      refine go_code ?_
      refine c_seq ?_
      refine c_region ?_
      refine AOps.st 26 rfl rfl rfl (op_move rfl rfl ?_)
      refine AOps.st 2 rfl rfl rfl (op_assign rfl rfl ?_)
      refine AOps.nil ?_
      refine go_code ?_
      refine c_ret ?_
      refine out_tmp rfl rfl (Le.own_eq ?_) (by first | exact MLe.none _ | exact MLe.refl _ | (repeat' (first | exact MLe.nil | exact MLe.refl _ | refine MLe.cons _ ?_ | refine MLe.drop _ ?_))) ⟨_, rfl, rfl⟩
      rw [List.take_of_length_le (by omega)]
    · refine c_cond_t rfl ?_
      refine c_skip ?_
      refine go_code ?_
      refine c_seq ?_
      refine c_block ?_
      refine c_seq ?_
      obtain ⟨⟨yk, ys, yn, yks, yp⟩, hx⟩ := get_some (l := ks) (i := i) (by omega)
      have hcx := Pa.cellss_get hx
      have hle := Pa.namess_len (ks.take i)
      have hle2 := Pa.names_len ⟨yk, ys, yn, yks, yp⟩
      have hle3 := Pa.sizes_take hx
      have e : strs (H ++ Pa.namess (ks.take i)) ++ strs (Pa.names ⟨yk, ys, yn, yks, yp⟩) = strs (H ++ Pa.namess (ks.take (i + 1))) := by rw [Pa.namess_take hx, ← strs_app, List.append_assoc]
      refine c_region ?_
      refine AOps.st 19 rfl rfl rfl (op_index rfl te_66 rfl (.seq _ _) rfl rfl (by assumption) ?_)
      first | (refine AOps.st 20 rfl rfl rfl (op_load_m (cs' := [_, _, _, _, _]) (i := 0) rfl ta_68 rfl rfl rfl rfl ?_)) | (refine AOps.st 20 rfl rfl rfl (op_load_m (cs' := [_, _, _, _, _]) (i := 1) rfl ta_68 rfl rfl rfl rfl ?_)) | (refine AOps.st 20 rfl rfl rfl (op_load_m (cs' := [_, _, _, _, _]) (i := 2) rfl ta_68 rfl rfl rfl rfl ?_)) | (refine AOps.st 20 rfl rfl rfl (op_load_m (cs' := [_, _, _, _, _]) (i := 3) rfl ta_68 rfl rfl rfl rfl ?_)) | (refine AOps.st 20 rfl rfl rfl (op_load_m (cs' := [_, _, _, _, _]) (i := 4) rfl ta_68 rfl rfl rfl rfl ?_)) | (refine AOps.st 20 rfl rfl rfl (op_load_m (cs' := [_, _, _, _, _]) (i := 5) rfl ta_68 rfl rfl rfl rfl ?_)) | (refine AOps.st 20 rfl rfl rfl (op_load_c (cs' := [_, _, _, _, _]) rfl ta_68 rfl rfl rfl ?_))
      refine AOps.st 5 rfl rfl rfl (op_alloce (cs' := [_, _, _, _, _]) rfl tz_68 rfl rfl ?_); intro b5
      refine AOps.st0 rfl rfl (op_store (cs' := [_, _, _, _, _]) (i := 0) rfl ts_68 rfl rfl rfl rfl rfl (Nat.le_of_ble_eq_true rfl) rfl ?_)
      refine AOps.nil ?_
      refine go_code ?_
      refine c_region ?_
      refine AOps.st 21 rfl rfl rfl (op_move rfl rfl ?_)
      refine AOps.st 22 rfl rfl rfl (op_load_m (cs' := [_, _, _, _, _]) (i := 0) rfl ta_68 rfl rfl rfl rfl ?_)
      refine AOps.st 23 rfl rfl rfl (op_callo (xs := [.tmp 22]) rfl rfl (IH _ (List.mem_of_getElem? hx)) (by first | exact Les.refl _ | (repeat' (first | exact Les.refl _ | refine Les.cons ?_ ?_ | exact Le.refl _ | exact Le.own _ _ _ | exact Le.nil _ | refine Le.agg ?_))) ?_); intro u23
      first | (refine AOps.st 24 rfl rfl rfl (op_append (i := 0) el_27 rfl rfl rfl rfl (.seq _ _) (by rw [strs_len, strs_len, List.length_append]; omega) ?_)) | (refine AOps.st 24 rfl rfl rfl (op_append (i := 1) el_27 rfl rfl rfl rfl (.seq _ _) (by rw [strs_len, strs_len, List.length_append]; omega) ?_)) | (refine AOps.st 24 rfl rfl rfl (op_append (i := 2) el_27 rfl rfl rfl rfl (.seq _ _) (by rw [strs_len, strs_len, List.length_append]; omega) ?_)) | (refine AOps.st 24 rfl rfl rfl (op_append (i := 3) el_27 rfl rfl rfl rfl (.seq _ _) (by rw [strs_len, strs_len, List.length_append]; omega) ?_)) | (refine AOps.st 24 rfl rfl rfl (op_append (i := 0) el_27 rfl rfl rfl rfl (.own _ _ _) (by rw [strs_len, strs_len, List.length_append]; omega) ?_)) | (refine AOps.st 24 rfl rfl rfl (op_append (i := 1) el_27 rfl rfl rfl rfl (.own _ _ _) (by rw [strs_len, strs_len, List.length_append]; omega) ?_)) | (refine AOps.st 24 rfl rfl rfl (op_append (i := 2) el_27 rfl rfl rfl rfl (.own _ _ _) (by rw [strs_len, strs_len, List.length_append]; omega) ?_))
      intro u24
      refine AOps.st 3 rfl rfl rfl (op_assign rfl rfl ?_)
      refine AOps.nil ?_
      refine go_blk ?_
      refine go_code ?_
      refine c_region ?_
      refine AOps.st 25 rfl rfl rfl (op_add rfl rfl rfl (IntWalk.i64_in _ (by omega)) ?_)
      refine AOps.st 17 rfl rfl rfl (op_move rfl rfl ?_)
      refine AOps.nil ?_
      refine go_lp ?_
      exact ⟨(i + 1, u24), by simp; omega, by simp; omega, (by repeat' (first | exact SLe.nil _ | refine SLe.cons rfl ?_ ?_ | exact Le.refl _ | exact Le.own _ _ _ | exact Le.nil _ | (refine Le.own_eq ?_; exact e) | (refine Le.own_seq ?_; exact e) | (refine Le.seq_eq ?_; exact e))), (by first | exact MLe.none _ | exact MLe.refl _ | (repeat' (first | exact MLe.nil | exact MLe.refl _ | refine MLe.cons _ ?_ | refine MLe.drop _ ?_)))⟩
  · refine c_cond_t rfl ?_
    refine c_region ?_
    refine AOps.st 9 rfl rfl rfl (op_move rfl rfl ?_)
    refine AOps.st 10 rfl rfl rfl (op_fieldAddr_c rfl tf_68_1 rfl rfl ?_)
    refine AOps.st 11 rfl rfl rfl (op_load_c1 rfl ta_9 rfl rfl ?_)
    refine AOps.st 12 rfl rfl rfl (op_buildSlice (xs := [.tmp 11]) el_27 rfl rfl rfl rfl rfl rfl (Nat.le_of_ble_eq_true rfl) ?_)
    refine AOps.st 13 rfl rfl rfl (op_append (i := 0) el_27 rfl rfl rfl rfl (.seq _ _) (by first | (simp; done) | (simp; omega) | omega) ?_)
    intro u13
    refine AOps.st 3 rfl rfl rfl (op_assign rfl rfl ?_)
    refine AOps.nil ?_
    refine go_code ?_
    refine c_seq ?_
    refine c_seq ?_
    refine c_region ?_
    refine AOps.st 14 rfl rfl rfl (op_fieldAddr_c rfl tf_68_3 rfl rfl ?_)
    refine AOps.st 15 rfl rfl rfl (op_load_c1 rfl ta_66 rfl rfl ?_)
    refine AOps.st 16 rfl rfl rfl (op_len rfl tu_66 rfl (.seq _ _) (fun n16 => ?_))
    refine AOps.st 17 rfl rfl rfl (op_move rfl rfl ?_)
    refine AOps.nil ?_
    refine go_code ?_
    refine c_block ?_
    refine c_loop (σ := Nat × Value) (fun zz => match zz with | (i, u) => [(3, .own u 1 (strs (H ++ Pa.namess (ks.take i)))), (15, .seq 5 (Pa.cellss ks)), (16, .val (.int .i64 (Pa.cellss ks).length)), (17, .val (.int .i64 i))]) (fun zz => match zz with | (i, u) => [.own 9 1 u]) (fun zz => match zz with | (i, u) => i ≤ ks.length) (fun zz => match zz with | (i, u) => ks.length - i) ((0, u13)) ?_ ?_ ?_ ?_
    · simp
    · exact (by repeat' (first | exact SLe.nil _ | refine SLe.cons rfl ?_ ?_ | exact Le.refl _ | exact Le.own _ _ _ | exact Le.nil _ | (refine Le.own_eq ?_; first | (rw [hH, if_pos g8]; rfl) | (rw [hH, if_neg g8]; rfl)) | (refine Le.own_seq ?_; first | (rw [hH, if_pos g8]; rfl) | (rw [hH, if_neg g8]; rfl)) | (refine Le.seq_eq ?_; first | (rw [hH, if_pos g8]; rfl) | (rw [hH, if_neg g8]; rfl))))
    · exact (by first | exact MLe.none _ | exact MLe.refl _ | (repeat' (first | exact MLe.nil | exact MLe.refl _ | refine MLe.cons _ ?_ | refine MLe.drop _ ?_)))
    rintro ⟨i, u⟩ hI
    try dsimp only at hI ⊢
    refine c_seq ?_
    refine c_region ?_
    refine AOps.st 18 rfl rfl rfl (op_lss rfl rfl rfl ?_); intro c18 h18
    refine AOps.nil ?_
    refine go_code ?_
    refine c_seq ?_
    rcases bool_split h18 with ⟨rfl, g18⟩ | ⟨rfl, g18⟩
    · refine c_cond_f rfl ?_
      refine c_exit ?_
      refine x_code ?_
      refine x_lp ?_
      refine x_here ?_
      refine go_code ?_
      refine c_seq ?_
      refine c_region ?_
      refine AOps.st 26 rfl rfl rfl (op_move rfl rfl ?_)
      refine AOps.st 2 rfl rfl rfl (op_assign rfl rfl ?_)
      refine AOps.nil ?_
      refine go_code ?_
      refine c_ret ?_
      refine out_tmp rfl rfl (Le.own_eq ?_) (by first | exact MLe.none _ | exact MLe.refl _ | (repeat' (first | exact MLe.nil | exact MLe.refl _ | refine MLe.cons _ ?_ | refine MLe.drop _ ?_))) ⟨_, rfl, rfl⟩
      rw [List.take_of_length_le (by omega)]
    · refine c_cond_t rfl ?_
      refine c_skip ?_
      refine go_code ?_
      refine c_seq ?_
      refine c_block ?_
      refine c_seq ?_
      obtain ⟨⟨yk, ys, yn, yks, yp⟩, hx⟩ := get_some (l := ks) (i := i) (by omega)
      have hcx := Pa.cellss_get hx
      have hle := Pa.namess_len (ks.take i)
      have hle2 := Pa.names_len ⟨yk, ys, yn, yks, yp⟩
      have hle3 := Pa.sizes_take hx
      have e : strs (H ++ Pa.namess (ks.take i)) ++ strs (Pa.names ⟨yk, ys, yn, yks, yp⟩) = strs (H ++ Pa.namess (ks.take (i + 1))) := by rw [Pa.namess_take hx, ← strs_app, List.append_assoc]
      refine c_region ?_
      refine AOps.st 19 rfl rfl rfl (op_index rfl te_66 rfl (.seq _ _) rfl rfl (by assumption) ?_)
      first | (refine AOps.st 20 rfl rfl rfl (op_load_m (cs' := [_, _, _, _, _]) (i := 0) rfl ta_68 rfl rfl rfl rfl ?_)) | (refine AOps.st 20 rfl rfl rfl (op_load_m (cs' := [_, _, _, _, _]) (i := 1) rfl ta_68 rfl rfl rfl rfl ?_)) | (refine AOps.st 20 rfl rfl rfl (op_load_m (cs' := [_, _, _, _, _]) (i := 2) rfl ta_68 rfl rfl rfl rfl ?_)) | (refine AOps.st 20 rfl rfl rfl (op_load_m (cs' := [_, _, _, _, _]) (i := 3) rfl ta_68 rfl rfl rfl rfl ?_)) | (refine AOps.st 20 rfl rfl rfl (op_load_m (cs' := [_, _, _, _, _]) (i := 4) rfl ta_68 rfl rfl rfl rfl ?_)) | (refine AOps.st 20 rfl rfl rfl (op_load_m (cs' := [_, _, _, _, _]) (i := 5) rfl ta_68 rfl rfl rfl rfl ?_)) | (refine AOps.st 20 rfl rfl rfl (op_load_c (cs' := [_, _, _, _, _]) rfl ta_68 rfl rfl rfl ?_))
      refine AOps.st 5 rfl rfl rfl (op_alloce (cs' := [_, _, _, _, _]) rfl tz_68 rfl rfl ?_); intro b5
      refine AOps.st0 rfl rfl (op_store (cs' := [_, _, _, _, _]) (i := 0) rfl ts_68 rfl rfl rfl rfl rfl (Nat.le_of_ble_eq_true rfl) rfl ?_)
      refine AOps.nil ?_
      refine go_code ?_
      refine c_region ?_
      refine AOps.st 21 rfl rfl rfl (op_move rfl rfl ?_)
      refine AOps.st 22 rfl rfl rfl (op_load_m (cs' := [_, _, _, _, _]) (i := 0) rfl ta_68 rfl rfl rfl rfl ?_)
      refine AOps.st 23 rfl rfl rfl (op_callo (xs := [.tmp 22]) rfl rfl (IH _ (List.mem_of_getElem? hx)) (by first | exact Les.refl _ | (repeat' (first | exact Les.refl _ | refine Les.cons ?_ ?_ | exact Le.refl _ | exact Le.own _ _ _ | exact Le.nil _ | refine Le.agg ?_))) ?_); intro u23
      first | (refine AOps.st 24 rfl rfl rfl (op_append (i := 0) el_27 rfl rfl rfl rfl (.seq _ _) (by rw [strs_len, strs_len, List.length_append]; omega) ?_)) | (refine AOps.st 24 rfl rfl rfl (op_append (i := 1) el_27 rfl rfl rfl rfl (.seq _ _) (by rw [strs_len, strs_len, List.length_append]; omega) ?_)) | (refine AOps.st 24 rfl rfl rfl (op_append (i := 2) el_27 rfl rfl rfl rfl (.seq _ _) (by rw [strs_len, strs_len, List.length_append]; omega) ?_)) | (refine AOps.st 24 rfl rfl rfl (op_append (i := 3) el_27 rfl rfl rfl rfl (.seq _ _) (by rw [strs_len, strs_len, List.length_append]; omega) ?_)) | (refine AOps.st 24 rfl rfl rfl (op_append (i := 0) el_27 rfl rfl rfl rfl (.own _ _ _) (by rw [strs_len, strs_len, List.length_append]; omega) ?_)) | (refine AOps.st 24 rfl rfl rfl (op_append (i := 1) el_27 rfl rfl rfl rfl (.own _ _ _) (by rw [strs_len, strs_len, List.length_append]; omega) ?_)) | (refine AOps.st 24 rfl rfl rfl (op_append (i := 2) el_27 rfl rfl rfl rfl (.own _ _ _) (by rw [strs_len, strs_len, List.length_append]; omega) ?_))
      intro u24
      refine AOps.st 3 rfl rfl rfl (op_assign rfl rfl ?_)
      refine AOps.nil ?_
      refine go_blk ?_
      refine go_code ?_
      refine c_region ?_
      refine AOps.st 25 rfl rfl rfl (op_add rfl rfl rfl (IntWalk.i64_in _ (by omega)) ?_)
      refine AOps.st 17 rfl rfl rfl (op_move rfl rfl ?_)
      refine AOps.nil ?_
      refine go_lp ?_
      exact ⟨(i + 1, u24), by simp; omega, by simp; omega, (by repeat' (first | exact SLe.nil _ | refine SLe.cons rfl ?_ ?_ | exact Le.refl _ | exact Le.own _ _ _ | exact Le.nil _ | (refine Le.own_eq ?_; exact e) | (refine Le.own_seq ?_; exact e) | (refine Le.seq_eq ?_; exact e))), (by first | exact MLe.none _ | exact MLe.refl _ | (repeat' (first | exact MLe.nil | exact MLe.refl _ | refine MLe.cons _ ?_ | refine MLe.drop _ ?_)))⟩
termination_by SizeOf.sizeOf q
decreasing_by exact Pa.lt_kid hx
set_option maxHeartbeats 4000000 in
set_option maxRecDepth 100000 in
theorem rNames_c (q : Pa) : q.size ≤ 10000000000 → OCall Try.prog 51 [.agg q.cells] 9 1 (strs q.names) := by
  obtain ⟨k, s, n, ks, p⟩ := q
  intro hs
  rw [Pa.size] at hs
  have IH : ∀ x ∈ ks, OCall Try.prog 51 [.agg x.cells] 9 1 (strs x.names) := fun x hx => rNames_c x (by have := Pa.size_kid hx; omega)
  have hl := Pa.cellss_len ks
  rw [Pa.names]
  obtain ⟨H, hH⟩ : ∃ H, H = (if k = 2 then [s] else []) := ⟨_, rfl⟩
  have hHl : H.length ≤ 1 := by rw [hH]; split <;> simp
  rw [← hH]
  refine ACall.enter Try.func51 rfl (by kernel_rfl) rfl (Nat.le_of_ble_eq_true rfl) ?_
  refine c_start ?_
  refine c_lena (t := 0) (j := 3) rfl rfl (.seq _ _) (fun hmax => ?_)
  refine c_seq ?_
  refine c_region ?_
  refine AOps.st 1 rfl rfl rfl (op_boxc (cs' := [_, _, _, _, _]) rfl rfl rfl rfl ?_)
  refine AOps.st 2 rfl rfl rfl (op_assign rfl rfl ?_)
  refine AOps.nil ?_
  refine go_code ?_
  refine c_seq ?_
  refine c_region ?_
  refine AOps.st 3 rfl rfl rfl (op_assign rfl rfl ?_)
  refine AOps.nil ?_
  refine go_code ?_
  refine c_seq ?_
  refine c_seq ?_
  refine ACode.ownNil (t := 3) 9 1 rfl ?_
  refine c_region ?_
  refine AOps.st 5 rfl rfl rfl (op_fieldAddr_c rfl tf_68_0 rfl rfl ?_)
  refine AOps.st 6 rfl rfl rfl (op_load_c1 rfl ta_3 rfl rfl ?_)
  refine AOps.st 7 rfl rfl rfl (op_eql rfl rfl rfl ?_); intro c7 h7
  refine AOps.nil ?_
  refine go_code ?_
  rcases bool_split h7 with ⟨rfl, g7⟩ | ⟨rfl, g7⟩
  · refine c_cond_f rfl ?_
    refine c_skip ?_
    refine go_code ?_
    refine c_seq ?_
    refine c_seq ?_
    refine c_region ?_
    refine AOps.st 4 rfl rfl rfl (op_assign rfl rfl ?_)
    refine AOps.nil ?_
    refine go_code ?_
    refine c_block ?_
    first | (refine c_loop (σ := Nat × Value) (fun zz => match zz with | (i, u) => [(1, .cptr (Pa.mk k s n ks p).cells), (3, .own u 1 (strs (H ++ Pa.namess (ks.take i)))), (4, .val (.int .i64 i))]) (fun zz => match zz with | (i, u) => [.own 9 1 u]) (fun zz => match zz with | (i, u) => i ≤ ks.length) (fun zz => match zz with | (i, u) => ks.length - i) ((0, u12)) ?_ ?_ ?_ ?_) | (refine c_loop (σ := Nat × Value) (fun zz => match zz with | (i, u) => [(1, .cptr (Pa.mk k s n ks p).cells), (3, .own u 1 (strs (H ++ Pa.namess (ks.take i)))), (4, .val (.int .i64 i))]) (fun zz => match zz with | (i, u) => [.own 9 1 u]) (fun zz => match zz with | (i, u) => i ≤ ks.length) (fun zz => match zz with | (i, u) => ks.length - i) ((0, .slice none 0 0)) ?_ ?_ ?_ ?_)
    · simp
    · exact (by repeat' (first | exact SLe.nil _ | refine SLe.cons rfl ?_ ?_ | exact Le.refl _ | exact Le.own _ _ _ | exact Le.nil _ | (refine Le.own_eq ?_; first | (rw [hH, if_pos g7]; rfl) | (rw [hH, if_neg g7]; rfl)) | (refine Le.own_seq ?_; first | (rw [hH, if_pos g7]; rfl) | (rw [hH, if_neg g7]; rfl)) | (refine Le.seq_eq ?_; first | (rw [hH, if_pos g7]; rfl) | (rw [hH, if_neg g7]; rfl))))
    · exact (by first | exact MLe.none _ | exact MLe.refl _ | (repeat' (first | exact MLe.nil | exact MLe.refl _ | refine MLe.cons _ ?_ | refine MLe.drop _ ?_)))
    rintro ⟨i, u⟩ hI
    try dsimp only at hI ⊢
    refine c_seq ?_
    refine c_seq ?_
    refine c_region ?_
    refine AOps.st 13 rfl rfl rfl (op_move rfl rfl ?_)
    refine AOps.st 14 rfl rfl rfl (op_fieldAddr_c rfl tf_68_3 rfl rfl ?_)
    refine AOps.st 15 rfl rfl rfl (op_load_c1 rfl ta_66 rfl rfl ?_)
    refine AOps.st 16 rfl rfl rfl (op_len rfl tu_66 rfl (.seq _ _) (fun n16 => ?_))
    refine AOps.st 17 rfl rfl rfl (op_lss rfl rfl rfl ?_); intro c17 h17
    refine AOps.nil ?_
    refine go_code ?_
    rcases bool_split h17 with ⟨rfl, g17⟩ | ⟨rfl, g17⟩
    · refine c_cond_f rfl ?_
      refine c_exit ?_
      refine x_code ?_
      refine x_lp ?_
      refine x_here ?_
      refine go_code ?_
      refine c_seq ?_
      refine c_region ?_
      refine AOps.st 28 rfl rfl rfl (op_move rfl rfl ?_)
      refine AOps.st 2 rfl rfl rfl (op_assign rfl rfl ?_)
      refine AOps.nil ?_
      refine go_code ?_
      refine c_ret ?_
      refine out_tmp rfl rfl (Le.own_eq ?_) (by first | exact MLe.none _ | exact MLe.refl _ | (repeat' (first | exact MLe.nil | exact MLe.refl _ | refine MLe.cons _ ?_ | refine MLe.drop _ ?_))) ⟨_, rfl, rfl⟩
      rw [List.take_of_length_le (by omega)]
    · refine c_cond_t rfl ?_
      refine c_skip ?_
      refine go_code ?_
      refine c_seq ?_
      refine c_block ?_
      obtain ⟨⟨yk, ys, yn, yks, yp⟩, hx⟩ := get_some (l := ks) (i := i) (by omega)
      have hcx := Pa.cellss_get hx
      have hle := Pa.namess_len (ks.take i)
      have hle2 := Pa.names_len ⟨yk, ys, yn, yks, yp⟩
      have hle3 := Pa.sizes_take hx
      have e : strs (H ++ Pa.namess (ks.take i)) ++ strs (Pa.names ⟨yk, ys, yn, yks, yp⟩) = strs (H ++ Pa.namess (ks.take (i + 1))) := by rw [Pa.namess_take hx, ← strs_app, List.append_assoc]
      refine c_region ?_
      refine AOps.st 20 rfl rfl rfl (op_move rfl rfl ?_)
      refine AOps.st 21 rfl rfl rfl (op_fieldAddr_c rfl tf_68_3 rfl rfl ?_)
      refine AOps.st 22 rfl rfl rfl (op_load_c1 rfl ta_66 rfl rfl ?_)
      refine AOps.st 23 rfl rfl rfl (op_move rfl rfl ?_)
      refine AOps.st 24 rfl rfl rfl (op_index rfl te_66 rfl (.seq _ _) rfl rfl (by assumption) ?_)
      first | (refine AOps.st 25 rfl rfl rfl (op_load_m (cs' := [_, _, _, _, _]) (i := 0) rfl ta_68 rfl rfl rfl rfl ?_)) | (refine AOps.st 25 rfl rfl rfl (op_load_m (cs' := [_, _, _, _, _]) (i := 1) rfl ta_68 rfl rfl rfl rfl ?_)) | (refine AOps.st 25 rfl rfl rfl (op_load_m (cs' := [_, _, _, _, _]) (i := 2) rfl ta_68 rfl rfl rfl rfl ?_)) | (refine AOps.st 25 rfl rfl rfl (op_load_m (cs' := [_, _, _, _, _]) (i := 3) rfl ta_68 rfl rfl rfl rfl ?_)) | (refine AOps.st 25 rfl rfl rfl (op_load_m (cs' := [_, _, _, _, _]) (i := 4) rfl ta_68 rfl rfl rfl rfl ?_)) | (refine AOps.st 25 rfl rfl rfl (op_load_m (cs' := [_, _, _, _, _]) (i := 5) rfl ta_68 rfl rfl rfl rfl ?_)) | (refine AOps.st 25 rfl rfl rfl (op_load_c (cs' := [_, _, _, _, _]) rfl ta_68 rfl rfl rfl ?_))
      refine AOps.st 26 rfl rfl rfl (op_callo (xs := [.tmp 25]) rfl rfl (IH _ (List.mem_of_getElem? hx)) (by first | exact Les.refl _ | (repeat' (first | exact Les.refl _ | refine Les.cons ?_ ?_ | exact Le.refl _ | exact Le.own _ _ _ | exact Le.nil _ | refine Le.agg ?_))) ?_); intro u26
      first | (refine AOps.st 27 rfl rfl rfl (op_append (i := 0) el_27 rfl rfl rfl rfl (.seq _ _) (by rw [strs_len, strs_len, List.length_append]; omega) ?_)) | (refine AOps.st 27 rfl rfl rfl (op_append (i := 1) el_27 rfl rfl rfl rfl (.seq _ _) (by rw [strs_len, strs_len, List.length_append]; omega) ?_)) | (refine AOps.st 27 rfl rfl rfl (op_append (i := 2) el_27 rfl rfl rfl rfl (.seq _ _) (by rw [strs_len, strs_len, List.length_append]; omega) ?_)) | (refine AOps.st 27 rfl rfl rfl (op_append (i := 3) el_27 rfl rfl rfl rfl (.seq _ _) (by rw [strs_len, strs_len, List.length_append]; omega) ?_)) | (refine AOps.st 27 rfl rfl rfl (op_append (i := 0) el_27 rfl rfl rfl rfl (.own _ _ _) (by rw [strs_len, strs_len, List.length_append]; omega) ?_)) | (refine AOps.st 27 rfl rfl rfl (op_append (i := 1) el_27 rfl rfl rfl rfl (.own _ _ _) (by rw [strs_len, strs_len, List.length_append]; omega) ?_))
      intro u27
      refine AOps.st 3 rfl rfl rfl (op_assign rfl rfl ?_)
      refine AOps.nil ?_
      refine go_blk ?_
      refine go_code ?_
      refine c_region ?_
      refine AOps.st 18 rfl rfl rfl (op_move rfl rfl ?_)
      refine AOps.st 19 rfl rfl rfl (op_add rfl rfl rfl (IntWalk.i64_in _ (by omega)) ?_)
      refine AOps.st 4 rfl rfl rfl (op_assign rfl rfl ?_)
      refine AOps.nil ?_
      refine go_lp ?_
      exact ⟨(i + 1, u27), by simp; omega, by simp; omega, (by repeat' (first | exact SLe.nil _ | refine SLe.cons rfl ?_ ?_ | exact Le.refl _ | exact Le.own _ _ _ | exact Le.nil _ | (refine Le.own_eq ?_; exact e) | (refine Le.own_seq ?_; exact e) | (refine Le.seq_eq ?_; exact e))), (by first | exact MLe.none _ | exact MLe.refl _ | (repeat' (first | exact MLe.nil | exact MLe.refl _ | refine MLe.cons _ ?_ | refine MLe.drop _ ?_)))⟩
  · refine c_cond_t rfl ?_
    refine c_region ?_
    refine AOps.st 8 rfl rfl rfl (op_move rfl rfl ?_)
    refine AOps.st 9 rfl rfl rfl (op_fieldAddr_c rfl tf_68_1 rfl rfl ?_)
    refine AOps.st 10 rfl rfl rfl (op_load_c1 rfl ta_9 rfl rfl ?_)
    refine AOps.st 11 rfl rfl rfl (op_buildSlice (xs := [.tmp 10]) el_27 rfl rfl rfl rfl rfl rfl (Nat.le_of_ble_eq_true rfl) ?_)
    refine AOps.st 12 rfl rfl rfl (op_append (i := 0) el_27 rfl rfl rfl rfl (.seq _ _) (by first | (simp; done) | (simp; omega) | omega) ?_)
    intro u12
    refine AOps.st 3 rfl rfl rfl (op_assign rfl rfl ?_)
    refine AOps.nil ?_
    refine go_code ?_
    refine c_seq ?_
    refine c_seq ?_
    refine c_region ?_
    refine AOps.st 4 rfl rfl rfl (op_assign rfl rfl ?_)
    refine AOps.nil ?_
    refine go_code ?_
    refine c_block ?_
    refine c_loop (σ := Nat × Value) (fun zz => match zz with | (i, u) => [(1, .cptr (Pa.mk k s n ks p).cells), (3, .own u 1 (strs (H ++ Pa.namess (ks.take i)))), (4, .val (.int .i64 i))]) (fun zz => match zz with | (i, u) => [.own 9 1 u]) (fun zz => match zz with | (i, u) => i ≤ ks.length) (fun zz => match zz with | (i, u) => ks.length - i) ((0, u12)) ?_ ?_ ?_ ?_
    · simp
    · exact (by repeat' (first | exact SLe.nil _ | refine SLe.cons rfl ?_ ?_ | exact Le.refl _ | exact Le.own _ _ _ | exact Le.nil _ | (refine Le.own_eq ?_; first | (rw [hH, if_pos g7]; rfl) | (rw [hH, if_neg g7]; rfl)) | (refine Le.own_seq ?_; first | (rw [hH, if_pos g7]; rfl) | (rw [hH, if_neg g7]; rfl)) | (refine Le.seq_eq ?_; first | (rw [hH, if_pos g7]; rfl) | (rw [hH, if_neg g7]; rfl))))
    · exact (by first | exact MLe.none _ | exact MLe.refl _ | (repeat' (first | exact MLe.nil | exact MLe.refl _ | refine MLe.cons _ ?_ | refine MLe.drop _ ?_)))
    rintro ⟨i, u⟩ hI
    try dsimp only at hI ⊢
    refine c_seq ?_
    refine c_seq ?_
    refine c_region ?_
    refine AOps.st 13 rfl rfl rfl (op_move rfl rfl ?_)
    refine AOps.st 14 rfl rfl rfl (op_fieldAddr_c rfl tf_68_3 rfl rfl ?_)
    refine AOps.st 15 rfl rfl rfl (op_load_c1 rfl ta_66 rfl rfl ?_)
    refine AOps.st 16 rfl rfl rfl (op_len rfl tu_66 rfl (.seq _ _) (fun n16 => ?_))
    refine AOps.st 17 rfl rfl rfl (op_lss rfl rfl rfl ?_); intro c17 h17
    refine AOps.nil ?_
    refine go_code ?_
    rcases bool_split h17 with ⟨rfl, g17⟩ | ⟨rfl, g17⟩
    · refine c_cond_f rfl ?_
      refine c_exit ?_
      refine x_code ?_
      refine x_lp ?_
      refine x_here ?_
      refine go_code ?_
      refine c_seq ?_
      refine c_region ?_
      refine AOps.st 28 rfl rfl rfl (op_move rfl rfl ?_)
      refine AOps.st 2 rfl rfl rfl (op_assign rfl rfl ?_)
      refine AOps.nil ?_
      refine go_code ?_
      refine c_ret ?_
      refine out_tmp rfl rfl (Le.own_eq ?_) (by first | exact MLe.none _ | exact MLe.refl _ | (repeat' (first | exact MLe.nil | exact MLe.refl _ | refine MLe.cons _ ?_ | refine MLe.drop _ ?_))) ⟨_, rfl, rfl⟩
      rw [List.take_of_length_le (by omega)]
    · refine c_cond_t rfl ?_
      refine c_skip ?_
      refine go_code ?_
      refine c_seq ?_
      refine c_block ?_
      obtain ⟨⟨yk, ys, yn, yks, yp⟩, hx⟩ := get_some (l := ks) (i := i) (by omega)
      have hcx := Pa.cellss_get hx
      have hle := Pa.namess_len (ks.take i)
      have hle2 := Pa.names_len ⟨yk, ys, yn, yks, yp⟩
      have hle3 := Pa.sizes_take hx
      have e : strs (H ++ Pa.namess (ks.take i)) ++ strs (Pa.names ⟨yk, ys, yn, yks, yp⟩) = strs (H ++ Pa.namess (ks.take (i + 1))) := by rw [Pa.namess_take hx, ← strs_app, List.append_assoc]
      refine c_region ?_
      refine AOps.st 20 rfl rfl rfl (op_move rfl rfl ?_)
      refine AOps.st 21 rfl rfl rfl (op_fieldAddr_c rfl tf_68_3 rfl rfl ?_)
      refine AOps.st 22 rfl rfl rfl (op_load_c1 rfl ta_66 rfl rfl ?_)
      refine AOps.st 23 rfl rfl rfl (op_move rfl rfl ?_)
      refine AOps.st 24 rfl rfl rfl (op_index rfl te_66 rfl (.seq _ _) rfl rfl (by assumption) ?_)
      first | (refine AOps.st 25 rfl rfl rfl (op_load_m (cs' := [_, _, _, _, _]) (i := 0) rfl ta_68 rfl rfl rfl rfl ?_)) | (refine AOps.st 25 rfl rfl rfl (op_load_m (cs' := [_, _, _, _, _]) (i := 1) rfl ta_68 rfl rfl rfl rfl ?_)) | (refine AOps.st 25 rfl rfl rfl (op_load_m (cs' := [_, _, _, _, _]) (i := 2) rfl ta_68 rfl rfl rfl rfl ?_)) | (refine AOps.st 25 rfl rfl rfl (op_load_m (cs' := [_, _, _, _, _]) (i := 3) rfl ta_68 rfl rfl rfl rfl ?_)) | (refine AOps.st 25 rfl rfl rfl (op_load_m (cs' := [_, _, _, _, _]) (i := 4) rfl ta_68 rfl rfl rfl rfl ?_)) | (refine AOps.st 25 rfl rfl rfl (op_load_m (cs' := [_, _, _, _, _]) (i := 5) rfl ta_68 rfl rfl rfl rfl ?_)) | (refine AOps.st 25 rfl rfl rfl (op_load_c (cs' := [_, _, _, _, _]) rfl ta_68 rfl rfl rfl ?_))
      refine AOps.st 26 rfl rfl rfl (op_callo (xs := [.tmp 25]) rfl rfl (IH _ (List.mem_of_getElem? hx)) (by first | exact Les.refl _ | (repeat' (first | exact Les.refl _ | refine Les.cons ?_ ?_ | exact Le.refl _ | exact Le.own _ _ _ | exact Le.nil _ | refine Le.agg ?_))) ?_); intro u26
      first | (refine AOps.st 27 rfl rfl rfl (op_append (i := 0) el_27 rfl rfl rfl rfl (.seq _ _) (by rw [strs_len, strs_len, List.length_append]; omega) ?_)) | (refine AOps.st 27 rfl rfl rfl (op_append (i := 1) el_27 rfl rfl rfl rfl (.seq _ _) (by rw [strs_len, strs_len, List.length_append]; omega) ?_)) | (refine AOps.st 27 rfl rfl rfl (op_append (i := 2) el_27 rfl rfl rfl rfl (.seq _ _) (by rw [strs_len, strs_len, List.length_append]; omega) ?_)) | (refine AOps.st 27 rfl rfl rfl (op_append (i := 3) el_27 rfl rfl rfl rfl (.seq _ _) (by rw [strs_len, strs_len, List.length_append]; omega) ?_)) | (refine AOps.st 27 rfl rfl rfl (op_append (i := 0) el_27 rfl rfl rfl rfl (.own _ _ _) (by rw [strs_len, strs_len, List.length_append]; omega) ?_)) | (refine AOps.st 27 rfl rfl rfl (op_append (i := 1) el_27 rfl rfl rfl rfl (.own _ _ _) (by rw [strs_len, strs_len, List.length_append]; omega) ?_))
      intro u27
      refine AOps.st 3 rfl rfl rfl (op_assign rfl rfl ?_)
      refine AOps.nil ?_
      refine go_blk ?_
      refine go_code ?_
      refine c_region ?_
      refine AOps.st 18 rfl rfl rfl (op_move rfl rfl ?_)
      refine AOps.st 19 rfl rfl rfl (op_add rfl rfl rfl (IntWalk.i64_in _ (by omega)) ?_)
      refine AOps.st 4 rfl rfl rfl (op_assign rfl rfl ?_)
      refine AOps.nil ?_
      refine go_lp ?_
      exact ⟨(i + 1, u27), by simp; omega, by simp; omega, (by repeat' (first | exact SLe.nil _ | refine SLe.cons rfl ?_ ?_ | exact Le.refl _ | exact Le.own _ _ _ | exact Le.nil _ | (refine Le.own_eq ?_; exact e) | (refine Le.own_seq ?_; exact e) | (refine Le.seq_eq ?_; exact e))), (by first | exact MLe.none _ | exact MLe.refl _ | (repeat' (first | exact MLe.nil | exact MLe.refl _ | refine MLe.cons _ ?_ | refine MLe.drop _ ?_)))⟩
termination_by SizeOf.sizeOf q
decreasing_by exact Pa.lt_kid hx
/-- a search: what was found, what is bound -/
def SM (b : Nat) (out bd : List Txt) (M : Mem) : Prop := ∃ uo ao cap, M = [.loc b [.own uo 1 (strs out), .val (.slice ao (strs bd).length cap)], .own 9 1 uo, .row 9 1 (.slice ao (strs bd).length cap) (strs bd)]
/-- a piece that goes on with a search -/
def Acts (f : FuncId) (args : List AV) (b : Nat) (bd : List Txt) (g : List Txt → List Txt) (w : Nat) : Prop :=
  ∀ out M, SM b out bd M → out.length + w ≤ 10000000000 → ACall Try.prog f args M (fun _ M' => SM b (g out) bd M')
set_option maxHeartbeats 4000000 in
set_option maxRecDepth 100000 in
theorem under_c (b : Nat) (bd names : List Txt) (f : FuncId) (fs cs : List AV) (g : List Txt → List Txt) (w : Nat) (hl : bd.length + names.length ≤ 10000000000) (hf : Acts f (fs ++ cs) b (bd ++ names) g w) : Acts 124 [.ptr b 0, .seq 1 (strs names), .clo (.func f) fs cs] b bd g w := by
  intro out M hM hw
  obtain ⟨uo, ao, cap, rfl⟩ := hM
  have h1 := strs_len bd
  have h2 := strs_len names
  have e1 : strs bd ++ strs names = strs (bd ++ names) := (strs_app _ _).symm
  have e3 : (strs bd).length + (strs names).length = (strs (bd ++ names)).length := by rw [strs_len, strs_len, strs_len, List.length_append]
  have e2 : (strs (bd ++ names)).take (strs bd).length = strs bd := by rw [h1, strs_take]; simp
  refine ACall.enter Try.func124 rfl (by kernel_rfl) rfl (Nat.le_of_ble_eq_true rfl) ?_
  refine c_start ?_
  refine c_seq ?_
  refine c_region ?_
  refine AOps.st 7 rfl rfl rfl (op_move rfl rfl ?_)
  refine AOps.st 8 rfl rfl rfl (op_nilCheck_m rfl rfl ?_)
  refine AOps.st 9 rfl rfl rfl (op_fieldAddr_m rfl tf_118_1 rfl ?_)
  refine AOps.st 10 rfl rfl rfl (op_load_m1 (i := 0) rfl ta_27 rfl rfl rfl ?_)
  refine AOps.st 11 rfl rfl rfl (op_len_row (i := 2) rfl tu_27 rfl rfl (fun n11 => ?_))
  refine AOps.st 6 rfl rfl rfl (op_assign rfl rfl ?_)
  refine AOps.nil ?_
  refine go_code ?_
  refine c_seq ?_
  refine c_region ?_
  refine AOps.st 12 rfl rfl rfl (op_move rfl rfl ?_)
  refine AOps.st 13 rfl rfl rfl (op_move rfl rfl ?_)
  refine AOps.st 14 rfl rfl rfl (op_nilCheck_m rfl rfl ?_)
  refine AOps.st 15 rfl rfl rfl (op_fieldAddr_m rfl tf_118_1 rfl ?_)
  refine AOps.st 16 rfl rfl rfl (op_load_m1 (i := 0) rfl ta_27 rfl rfl rfl ?_)
  refine AOps.st 17 rfl rfl rfl (op_move rfl rfl ?_)
  refine AOps.st 18 rfl rfl rfl (op_append_row (i := 2) el_27 rfl rfl rfl rfl (.seq _ _) (by omega) ?_)
  intro a18 p18
  refine AOps.st 19 rfl rfl rfl (op_nilCheck_m rfl rfl ?_)
  refine AOps.st 20 rfl rfl rfl (op_fieldAddr_m rfl tf_118_1 rfl ?_)
  refine AOps.st0 rfl rfl (op_store (i := 0) rfl ts_27 rfl rfl rfl rfl rfl (Nat.le_of_ble_eq_true rfl) rfl ?_)
  refine AOps.nil ?_
  rw [e1, e3]
  refine go_code ?_
  refine c_seq ?_
  refine c_region ?_
  refine AOps.st 21 rfl rfl rfl (op_move rfl rfl ?_)
  refine AOps.st 22 rfl rfl rfl (op_callvm (xs := [])  [] rfl rfl rfl rfl (hf out _ ⟨uo, a18, p18, rfl⟩ hw) (by simp; exact Les.refl _) (fun v22 M22 h22 => ?_))
  obtain ⟨uo2, ao2, cap2, rfl⟩ := h22
  refine AOps.nil ?_
  refine go_code ?_
  refine c_region ?_
  refine AOps.st 23 rfl rfl rfl (op_move rfl rfl ?_)
  refine AOps.st 24 rfl rfl rfl (op_move rfl rfl ?_)
  refine AOps.st 25 rfl rfl rfl (op_nilCheck_m rfl rfl ?_)
  refine AOps.st 26 rfl rfl rfl (op_fieldAddr_m rfl tf_118_1 rfl ?_)
  refine AOps.st 27 rfl rfl rfl (op_load_m1 (i := 0) rfl ta_27 rfl rfl rfl ?_)
  refine AOps.st 28 rfl rfl rfl (op_move rfl rfl ?_)
  refine AOps.st 29 rfl rfl rfl (op_slice_row (i := 2) rfl te_27 rfl rfl rfl (by rw [strs_len, strs_len, List.length_append]; omega) rfl ?_); intro a29 p29
  refine AOps.st 30 rfl rfl rfl (op_nilCheck_m rfl rfl ?_)
  refine AOps.st 31 rfl rfl rfl (op_fieldAddr_m rfl tf_118_1 rfl ?_)
  refine AOps.st0 rfl rfl (op_store (i := 0) rfl ts_27 rfl rfl rfl rfl rfl (Nat.le_of_ble_eq_true rfl) rfl ?_)
  refine AOps.nil ?_
  rw [e2]
  refine go_end ?_
  exact out_none rfl (MLe.refl _) ⟨uo2, a29, p29, rfl⟩
set_option maxHeartbeats 4000000 in
set_option maxRecDepth 100000 in
theorem all_c (b : Nat) (bd : List Txt) (ks : List Ex) (IH : ∀ x ∈ ks, Acts 95 [.ptr b 0, .agg x.cells] b bd (x.fr bd) x.w) : Acts 123 [.ptr b 0, .seq 11 (Ex.cellss ks)] b bd (Ex.frs ks bd) (Ex.ws ks) := by
  intro out M hM hw
  have hl := Ex.cellss_len ks
  refine ACall.enter Try.func123 rfl (by kernel_rfl) rfl (Nat.le_of_ble_eq_true rfl) ?_
  refine c_start ?_
  refine c_lens (t := 1) rfl (.seq _ _) (fun hmax => ?_)
  refine c_seq ?_
  refine c_region ?_
  refine AOps.st 6 rfl rfl rfl (op_move rfl rfl ?_)
  refine AOps.st 7 rfl rfl rfl (op_len rfl tu_56 rfl (.seq _ _) (fun n7 => ?_))
  refine AOps.st 8 rfl rfl rfl (op_move rfl rfl ?_)
  refine AOps.nil ?_
  refine go_code ?_
  refine c_block ?_
  refine c_loop (σ := Nat × Mem) (fun zz => match zz with | (i, M) => [(0, .ptr b 0), (6, .seq 11 (Ex.cellss ks)), (7, .val (.int .i64 (Ex.cellss ks).length)), (8, .val (.int .i64 i))]) (fun zz => match zz with | (i, M) => M) (fun zz => match zz with | (i, M) => i ≤ ks.length ∧ SM b (Ex.frs (ks.take i) bd out) bd M) (fun zz => match zz with | (i, M) => ks.length - i) ((0, M)) ?_ ?_ ?_ ?_
  · exact ⟨by omega, hM⟩
  · exact (by repeat' (first | exact SLe.nil _ | refine SLe.cons rfl ?_ ?_ | exact Le.refl _ | exact Le.own _ _ _ | exact Le.nil _))
  · exact (by first | exact MLe.none _ | exact MLe.refl _ | (repeat' (first | exact MLe.nil | exact MLe.refl _ | refine MLe.cons _ ?_ | refine MLe.drop _ ?_)))
  rintro ⟨i, M⟩ hI
  try dsimp only at hI ⊢
  obtain ⟨hi, hJ⟩ := hI
  refine c_seq ?_
  refine c_region ?_
  refine AOps.st 9 rfl rfl rfl (op_lss rfl rfl rfl ?_); intro c9 h9
  refine AOps.nil ?_
  refine go_code ?_
  refine c_seq ?_
  rcases bool_split h9 with ⟨rfl, g9⟩ | ⟨rfl, g9⟩
  · refine c_cond_f rfl ?_
    refine c_exit ?_
    refine x_code ?_
    refine x_lp ?_
    refine x_here ?_
    refine go_end ?_
    refine out_none rfl (MLe.refl _) ?_
    rwa [List.take_of_length_le (by omega)] at hJ
  · refine c_cond_t rfl ?_
    refine c_skip ?_
    refine go_code ?_
    refine c_seq ?_
    refine c_block ?_
    refine c_seq ?_
    obtain ⟨⟨k, s, n, ⟨tk, ts, tn, tks⟩, kks, al, bs, p⟩, hx⟩ := get_some (l := ks) (i := i) (by omega)
    have hcx := Ex.cellss_get hx
    have hle := Ex.frs_len (ks.take i) bd out
    have hsm := sum_at Ex.w hx
    rw [Ex.ws_map] at hw hle
    have hft := Ex.frs_take (bd := bd) (out := out) hx
    have HC := IH _ (List.mem_of_getElem? hx) _ M hJ (by omega)
    rw [← hft] at HC
    refine c_region ?_
    refine AOps.st 10 rfl rfl rfl (op_index rfl te_56 rfl (.seq _ _) rfl rfl (by assumption) ?_)
    first | (refine AOps.st 11 rfl rfl rfl (op_load_m (cs' := [_, _, _, _, _, _, _, _, _, _, _]) (i := 0) rfl ta_60 rfl rfl rfl rfl ?_)) | (refine AOps.st 11 rfl rfl rfl (op_load_m (cs' := [_, _, _, _, _, _, _, _, _, _, _]) (i := 1) rfl ta_60 rfl rfl rfl rfl ?_)) | (refine AOps.st 11 rfl rfl rfl (op_load_m (cs' := [_, _, _, _, _, _, _, _, _, _, _]) (i := 2) rfl ta_60 rfl rfl rfl rfl ?_)) | (refine AOps.st 11 rfl rfl rfl (op_load_m (cs' := [_, _, _, _, _, _, _, _, _, _, _]) (i := 3) rfl ta_60 rfl rfl rfl rfl ?_)) | (refine AOps.st 11 rfl rfl rfl (op_load_m (cs' := [_, _, _, _, _, _, _, _, _, _, _]) (i := 4) rfl ta_60 rfl rfl rfl rfl ?_)) | (refine AOps.st 11 rfl rfl rfl (op_load_m (cs' := [_, _, _, _, _, _, _, _, _, _, _]) (i := 5) rfl ta_60 rfl rfl rfl rfl ?_)) | (refine AOps.st 11 rfl rfl rfl (op_load_c (cs' := [_, _, _, _, _, _, _, _, _, _, _]) rfl ta_60 rfl rfl rfl ?_))
    refine AOps.st 5 rfl rfl rfl (op_alloce (cs' := [_, _, _, _, _, _, _, _, _, _, _]) rfl tz_60 rfl rfl ?_); intro b5
    refine AOps.st0 rfl rfl (op_store (cs' := [_, _, _, _, _, _, _, _, _, _, _]) (i := 0) rfl ts_60 rfl rfl rfl rfl rfl (Nat.le_of_ble_eq_true rfl) rfl ?_)
    refine AOps.nil ?_
    refine go_code ?_
    refine c_region ?_
    refine AOps.st 12 rfl rfl rfl (op_move rfl rfl ?_)
    refine AOps.st 13 rfl rfl rfl (op_load_m (cs' := [_, _, _, _, _, _, _, _, _, _, _]) (i := 0) rfl ta_60 rfl rfl rfl rfl ?_)
    refine AOps.st 14 rfl rfl rfl (op_callm (xs := [.tmp 12, .tmp 13])  [.loc b5 _] rfl rfl rfl HC (Les.refl _) (fun v14 M14 h14 => ?_))
    refine AOps.nil ?_
    refine go_blk ?_
    refine go_code ?_
    refine c_region ?_
    refine AOps.st 15 rfl rfl rfl (op_add rfl rfl rfl (IntWalk.i64_in _ (by omega)) ?_)
    refine AOps.st 8 rfl rfl rfl (op_move rfl rfl ?_)
    refine AOps.nil ?_
    refine go_lp ?_
    exact ⟨(i + 1, M14), ⟨by omega, h14⟩, by simp; omega, (by repeat' (first | exact SLe.nil _ | refine SLe.cons rfl ?_ ?_ | exact Le.refl _ | exact Le.own _ _ _ | exact Le.nil _)), (MLe.drop _ (MLe.refl _))⟩
set_option maxHeartbeats 4000000 in
set_option maxRecDepth 100000 in
theorem kids_act (b : Nat) (bd : List Txt) (e : Ex) {k n p : Int} {s : Txt} {t : Ty} {ks : List Ex} {al : List Al} {bs : List Bi} (he : e = .mk k s n t ks al bs p) (IH : ∀ x ∈ ks, Acts 95 [.ptr b 0, .agg x.cells] b bd (x.fr bd) x.w) : Acts 122 [.cptr [.ptr b 0], .cptr e.cells] b bd (Ex.frs ks bd) (Ex.ws ks) := by
  subst he
  obtain ⟨tk, ts, tn, tks⟩ := t
  intro out M hM hw
  have HC := all_c b bd ks IH out M hM hw
  refine ACall.enter Try.func122 rfl (by kernel_rfl) rfl (Nat.le_of_ble_eq_true rfl) ?_
  refine c_start ?_
  refine c_region ?_
  first | (refine AOps.st 2 rfl rfl rfl (op_load_m1 (i := 0) rfl ta_116 rfl rfl rfl ?_)) | (refine AOps.st 2 rfl rfl rfl (op_load_m1 (i := 1) rfl ta_116 rfl rfl rfl ?_)) | (refine AOps.st 2 rfl rfl rfl (op_load_m1 (i := 2) rfl ta_116 rfl rfl rfl ?_)) | (refine AOps.st 2 rfl rfl rfl (op_load_m1 (i := 3) rfl ta_116 rfl rfl rfl ?_)) | (refine AOps.st 2 rfl rfl rfl (op_load_m1 (i := 4) rfl ta_116 rfl rfl rfl ?_)) | (refine AOps.st 2 rfl rfl rfl (op_load_m1 (i := 5) rfl ta_116 rfl rfl rfl ?_)) | (refine AOps.st 2 rfl rfl rfl (op_load_c1 rfl ta_116 rfl rfl ?_))
  first | (refine AOps.st 3 rfl rfl rfl (op_fieldAddr_m rfl tf_60_4 rfl ?_)) | (refine AOps.st 3 rfl rfl rfl (op_fieldAddr_c rfl tf_60_4 rfl rfl ?_))
  first | (refine AOps.st 4 rfl rfl rfl (op_load_m1 (i := 0) rfl ta_56 rfl rfl rfl ?_)) | (refine AOps.st 4 rfl rfl rfl (op_load_m1 (i := 1) rfl ta_56 rfl rfl rfl ?_)) | (refine AOps.st 4 rfl rfl rfl (op_load_m1 (i := 2) rfl ta_56 rfl rfl rfl ?_)) | (refine AOps.st 4 rfl rfl rfl (op_load_m1 (i := 3) rfl ta_56 rfl rfl rfl ?_)) | (refine AOps.st 4 rfl rfl rfl (op_load_m1 (i := 4) rfl ta_56 rfl rfl rfl ?_)) | (refine AOps.st 4 rfl rfl rfl (op_load_m1 (i := 5) rfl ta_56 rfl rfl rfl ?_)) | (refine AOps.st 4 rfl rfl rfl (op_load_c1 rfl ta_56 rfl rfl ?_))
  refine AOps.st 5 rfl rfl rfl (op_callm (xs := [.tmp 2, .tmp 4])  [] rfl rfl rfl HC (Les.refl _) (fun v5 M5 h5 => ?_))
  refine AOps.nil ?_
  refine go_end ?_
  exact out_none rfl (MLe.refl _) h5
set_option maxHeartbeats 4000000 in
set_option maxRecDepth 100000 in
theorem binds_act (b : Nat) (bd : List Txt) (e : Ex) {k n p : Int} {s : Txt} {t : Ty} {ks : List Ex} {al : List Al} {bs : List Bi} (he : e = .mk k s n t ks al bs p) (IH : ∀ x ∈ bs, Acts 95 [.ptr b 0, .agg x.e.cells] b bd (x.e.fr bd) x.e.w) : Acts 121 [.cptr e.cells, .cptr [.ptr b 0]] b bd (Bi.frs bs bd) (Bi.ws bs) := by
  subst he
  obtain ⟨tk, ts, tn, tks⟩ := t
  intro out M hM hw
  have hl := Bi.cellss_len bs
  refine ACall.enter Try.func121 rfl (by kernel_rfl) rfl (Nat.le_of_ble_eq_true rfl) ?_
  refine c_start ?_
  refine c_lenp (t := 0) (j := 9) rfl rfl (.seq _ _) (fun hmax => ?_)
  refine c_seq ?_
  refine c_region ?_
  first | (refine AOps.st 4 rfl rfl rfl (op_fieldAddr_m rfl tf_60_6 rfl ?_)) | (refine AOps.st 4 rfl rfl rfl (op_fieldAddr_c rfl tf_60_6 rfl rfl ?_))
  first | (refine AOps.st 5 rfl rfl rfl (op_load_m1 (i := 0) rfl ta_58 rfl rfl rfl ?_)) | (refine AOps.st 5 rfl rfl rfl (op_load_m1 (i := 1) rfl ta_58 rfl rfl rfl ?_)) | (refine AOps.st 5 rfl rfl rfl (op_load_m1 (i := 2) rfl ta_58 rfl rfl rfl ?_)) | (refine AOps.st 5 rfl rfl rfl (op_load_m1 (i := 3) rfl ta_58 rfl rfl rfl ?_)) | (refine AOps.st 5 rfl rfl rfl (op_load_m1 (i := 4) rfl ta_58 rfl rfl rfl ?_)) | (refine AOps.st 5 rfl rfl rfl (op_load_m1 (i := 5) rfl ta_58 rfl rfl rfl ?_)) | (refine AOps.st 5 rfl rfl rfl (op_load_c1 rfl ta_58 rfl rfl ?_))
  refine AOps.st 6 rfl rfl rfl (op_len rfl tu_58 rfl (.seq _ _) (fun n6 => ?_))
  refine AOps.st 7 rfl rfl rfl (op_move rfl rfl ?_)
  refine AOps.nil ?_
  refine go_code ?_
  refine c_block ?_
  refine c_loop (σ := Nat × Mem) (fun zz => match zz with | (i, M) => [(1, .cptr [.ptr b 0]), (5, .seq 13 (Bi.cellss bs)), (6, .val (.int .i64 (Bi.cellss bs).length)), (7, .val (.int .i64 i))]) (fun zz => match zz with | (i, M) => M) (fun zz => match zz with | (i, M) => i ≤ bs.length ∧ SM b (Bi.frs (bs.take i) bd out) bd M) (fun zz => match zz with | (i, M) => bs.length - i) ((0, M)) ?_ ?_ ?_ ?_
  · exact ⟨by omega, hM⟩
  · exact (by repeat' (first | exact SLe.nil _ | refine SLe.cons rfl ?_ ?_ | exact Le.refl _ | exact Le.own _ _ _ | exact Le.nil _))
  · exact (by first | exact MLe.none _ | exact MLe.refl _ | (repeat' (first | exact MLe.nil | exact MLe.refl _ | refine MLe.cons _ ?_ | refine MLe.drop _ ?_)))
  rintro ⟨i, M⟩ hI
  try dsimp only at hI ⊢
  obtain ⟨hi, hJ⟩ := hI
  refine c_seq ?_
  refine c_region ?_
  refine AOps.st 8 rfl rfl rfl (op_lss rfl rfl rfl ?_); intro c8 h8
  refine AOps.nil ?_
  refine go_code ?_
  refine c_seq ?_
  rcases bool_split h8 with ⟨rfl, g8⟩ | ⟨rfl, g8⟩
  · refine c_cond_f rfl ?_
    refine c_exit ?_
    refine x_code ?_
    refine x_lp ?_
    refine x_here ?_
    refine go_end ?_
    refine out_none rfl (MLe.refl _) ?_
    rwa [List.take_of_length_le (by omega)] at hJ
  · refine c_cond_t rfl ?_
    refine c_skip ?_
    refine go_code ?_
    refine c_seq ?_
    refine c_block ?_
    refine c_seq ?_
    obtain ⟨⟨ys, ⟨yk, yt, yn, ⟨ytk, yts, ytn, ytks⟩, yks, yal, ybs, yq⟩, yp⟩, hx⟩ := get_some (l := bs) (i := i) (by omega)
    have hcx := Bi.cellss_get hx
    have hle := Bi.frs_len (bs.take i) bd out
    have hsm := sum_at Bi.w hx
    rw [Bi.ws_map] at hw hle
    have hft := Bi.frs_take (bd := bd) (out := out) hx
    have HC := IH _ (List.mem_of_getElem? hx) _ M hJ (by rw [Bi.w] at hsm; simp only [Bi.e]; omega)
    rw [Bi.fr] at hft
    simp only [Bi.e] at HC
    rw [← hft] at HC
    refine c_region ?_
    refine AOps.st 9 rfl rfl rfl (op_index rfl te_58 rfl (.seq _ _) rfl rfl (by assumption) ?_)
    first | (refine AOps.st 10 rfl rfl rfl (op_load_m (cs' := [_, _, _, _, _, _, _, _, _, _, _, _, _]) (i := 0) rfl ta_74 rfl rfl rfl rfl ?_)) | (refine AOps.st 10 rfl rfl rfl (op_load_m (cs' := [_, _, _, _, _, _, _, _, _, _, _, _, _]) (i := 1) rfl ta_74 rfl rfl rfl rfl ?_)) | (refine AOps.st 10 rfl rfl rfl (op_load_m (cs' := [_, _, _, _, _, _, _, _, _, _, _, _, _]) (i := 2) rfl ta_74 rfl rfl rfl rfl ?_)) | (refine AOps.st 10 rfl rfl rfl (op_load_m (cs' := [_, _, _, _, _, _, _, _, _, _, _, _, _]) (i := 3) rfl ta_74 rfl rfl rfl rfl ?_)) | (refine AOps.st 10 rfl rfl rfl (op_load_m (cs' := [_, _, _, _, _, _, _, _, _, _, _, _, _]) (i := 4) rfl ta_74 rfl rfl rfl rfl ?_)) | (refine AOps.st 10 rfl rfl rfl (op_load_m (cs' := [_, _, _, _, _, _, _, _, _, _, _, _, _]) (i := 5) rfl ta_74 rfl rfl rfl rfl ?_)) | (refine AOps.st 10 rfl rfl rfl (op_load_c (cs' := [_, _, _, _, _, _, _, _, _, _, _, _, _]) rfl ta_74 rfl rfl rfl ?_))
    refine AOps.st 3 rfl rfl rfl (op_alloce (cs' := [_, _, _, _, _, _, _, _, _, _, _, _, _]) rfl tz_74 rfl rfl ?_); intro b3
    refine AOps.st0 rfl rfl (op_store (cs' := [_, _, _, _, _, _, _, _, _, _, _, _, _]) (i := 0) rfl ts_74 rfl rfl rfl rfl rfl (Nat.le_of_ble_eq_true rfl) rfl ?_)
    refine AOps.nil ?_
    refine go_code ?_
    refine c_region ?_
    first | (refine AOps.st 11 rfl rfl rfl (op_load_m1 (i := 0) rfl ta_116 rfl rfl rfl ?_)) | (refine AOps.st 11 rfl rfl rfl (op_load_m1 (i := 1) rfl ta_116 rfl rfl rfl ?_)) | (refine AOps.st 11 rfl rfl rfl (op_load_m1 (i := 2) rfl ta_116 rfl rfl rfl ?_)) | (refine AOps.st 11 rfl rfl rfl (op_load_m1 (i := 3) rfl ta_116 rfl rfl rfl ?_)) | (refine AOps.st 11 rfl rfl rfl (op_load_m1 (i := 4) rfl ta_116 rfl rfl rfl ?_)) | (refine AOps.st 11 rfl rfl rfl (op_load_m1 (i := 5) rfl ta_116 rfl rfl rfl ?_)) | (refine AOps.st 11 rfl rfl rfl (op_load_c1 rfl ta_116 rfl rfl ?_))
    refine AOps.st 12 rfl rfl rfl (op_fieldAddr_m rfl tf_74_1 rfl ?_)
    refine AOps.st 13 rfl rfl rfl (op_load_m (cs' := [_, _, _, _, _, _, _, _, _, _, _]) (i := 0) rfl ta_60 rfl rfl rfl rfl ?_)
    refine AOps.st 14 rfl rfl rfl (op_callm (xs := [.tmp 11, .tmp 13])  [.loc b3 _] rfl rfl rfl HC (Les.refl _) (fun v14 M14 h14 => ?_))
    refine AOps.nil ?_
    refine go_blk ?_
    refine go_code ?_
    refine c_region ?_
    refine AOps.st 15 rfl rfl rfl (op_add rfl rfl rfl (IntWalk.i64_in _ (by omega)) ?_)
    refine AOps.st 7 rfl rfl rfl (op_move rfl rfl ?_)
    refine AOps.nil ?_
    refine go_lp ?_
    exact ⟨(i + 1, M14), ⟨by omega, h14⟩, by simp; omega, (by repeat' (first | exact SLe.nil _ | refine SLe.cons rfl ?_ ?_ | exact Le.refl _ | exact Le.own _ _ _ | exact Le.nil _)), (MLe.drop _ (MLe.refl _))⟩
set_option maxHeartbeats 4000000 in
set_option maxRecDepth 100000 in
theorem both_act (b : Nat) (bd : List Txt) (f1 f2 : FuncId) (c1 c2 : List AV) (g1 g2 : List Txt → List Txt) (w1 w2 : Nat) (hg : ∀ out, (g1 out).length ≤ out.length + w1) (H1 : Acts f1 c1 b bd g1 w1) (H2 : Acts f2 c2 b bd g2 w2) : Acts 125 [.cptr [.clo (.func f1) [] c1], .cptr [.clo (.func f2) [] c2]] b bd (fun out => g2 (g1 out)) (w1 + w2) := by
  intro out M hM hw
  have h1 := hg out
  refine ACall.enter Try.func125 rfl (by kernel_rfl) rfl (Nat.le_of_ble_eq_true rfl) ?_
  refine c_start ?_
  refine c_seq ?_
  refine c_region ?_
  first | (refine AOps.st 2 rfl rfl rfl (op_load_m1 (i := 0) rfl ta_1 rfl rfl rfl ?_)) | (refine AOps.st 2 rfl rfl rfl (op_load_m1 (i := 1) rfl ta_1 rfl rfl rfl ?_)) | (refine AOps.st 2 rfl rfl rfl (op_load_m1 (i := 2) rfl ta_1 rfl rfl rfl ?_)) | (refine AOps.st 2 rfl rfl rfl (op_load_m1 (i := 3) rfl ta_1 rfl rfl rfl ?_)) | (refine AOps.st 2 rfl rfl rfl (op_load_m1 (i := 4) rfl ta_1 rfl rfl rfl ?_)) | (refine AOps.st 2 rfl rfl rfl (op_load_m1 (i := 5) rfl ta_1 rfl rfl rfl ?_)) | (refine AOps.st 2 rfl rfl rfl (op_load_c1 rfl ta_1 rfl rfl ?_))
  refine AOps.st 3 rfl rfl rfl (op_callvm (xs := [])  [] rfl rfl rfl rfl (H1 out M hM (by omega)) (Les.refl _) (fun v3 M3 h3 => ?_))
  refine AOps.nil ?_
  refine go_code ?_
  refine c_region ?_
  first | (refine AOps.st 4 rfl rfl rfl (op_load_m1 (i := 0) rfl ta_1 rfl rfl rfl ?_)) | (refine AOps.st 4 rfl rfl rfl (op_load_m1 (i := 1) rfl ta_1 rfl rfl rfl ?_)) | (refine AOps.st 4 rfl rfl rfl (op_load_m1 (i := 2) rfl ta_1 rfl rfl rfl ?_)) | (refine AOps.st 4 rfl rfl rfl (op_load_m1 (i := 3) rfl ta_1 rfl rfl rfl ?_)) | (refine AOps.st 4 rfl rfl rfl (op_load_m1 (i := 4) rfl ta_1 rfl rfl rfl ?_)) | (refine AOps.st 4 rfl rfl rfl (op_load_m1 (i := 5) rfl ta_1 rfl rfl rfl ?_)) | (refine AOps.st 4 rfl rfl rfl (op_load_c1 rfl ta_1 rfl rfl ?_))
  refine AOps.st 5 rfl rfl rfl (op_callvm (xs := [])  [] rfl rfl rfl rfl (H2 _ M3 h3 (by omega)) (Les.refl _) (fun v5 M5 h5 => ?_))
  refine AOps.nil ?_
  refine go_end ?_
  exact out_none rfl (MLe.refl _) h5
set_option maxHeartbeats 4000000 in
set_option maxRecDepth 100000 in
theorem alt_act (b : Nat) (bd : List Txt) (a : Al) (H : Acts 95 [.ptr b 0, .agg a.e.cells] b bd (a.e.fr bd) a.e.w) : Acts 126 [.cptr [.ptr b 0], .cptr a.cells] b bd (a.e.fr bd) a.e.w := by
  obtain ⟨⟨qk, qs, qn, qks, qp⟩, ⟨k, s, n, ⟨tk, ts, tn, tks⟩, kks, al, bs, p⟩⟩ := a
  intro out M hM hw
  simp only [Al.e] at *
  have HC := H out M hM hw
  refine ACall.enter Try.func126 rfl (by kernel_rfl) rfl (Nat.le_of_ble_eq_true rfl) ?_
  refine c_start ?_
  refine c_region ?_
  first | (refine AOps.st 2 rfl rfl rfl (op_load_m1 (i := 0) rfl ta_116 rfl rfl rfl ?_)) | (refine AOps.st 2 rfl rfl rfl (op_load_m1 (i := 1) rfl ta_116 rfl rfl rfl ?_)) | (refine AOps.st 2 rfl rfl rfl (op_load_m1 (i := 2) rfl ta_116 rfl rfl rfl ?_)) | (refine AOps.st 2 rfl rfl rfl (op_load_m1 (i := 3) rfl ta_116 rfl rfl rfl ?_)) | (refine AOps.st 2 rfl rfl rfl (op_load_m1 (i := 4) rfl ta_116 rfl rfl rfl ?_)) | (refine AOps.st 2 rfl rfl rfl (op_load_m1 (i := 5) rfl ta_116 rfl rfl rfl ?_)) | (refine AOps.st 2 rfl rfl rfl (op_load_c1 rfl ta_116 rfl rfl ?_))
  first | (refine AOps.st 3 rfl rfl rfl (op_fieldAddr_m rfl tf_70_1 rfl ?_)) | (refine AOps.st 3 rfl rfl rfl (op_fieldAddr_c rfl tf_70_1 rfl rfl ?_))
  first | (refine AOps.st 4 rfl rfl rfl (op_load_m (cs' := [_, _, _, _, _, _, _, _, _, _, _]) (i := 0) rfl ta_60 rfl rfl rfl rfl ?_)) | (refine AOps.st 4 rfl rfl rfl (op_load_m (cs' := [_, _, _, _, _, _, _, _, _, _, _]) (i := 1) rfl ta_60 rfl rfl rfl rfl ?_)) | (refine AOps.st 4 rfl rfl rfl (op_load_m (cs' := [_, _, _, _, _, _, _, _, _, _, _]) (i := 2) rfl ta_60 rfl rfl rfl rfl ?_)) | (refine AOps.st 4 rfl rfl rfl (op_load_m (cs' := [_, _, _, _, _, _, _, _, _, _, _]) (i := 3) rfl ta_60 rfl rfl rfl rfl ?_)) | (refine AOps.st 4 rfl rfl rfl (op_load_m (cs' := [_, _, _, _, _, _, _, _, _, _, _]) (i := 4) rfl ta_60 rfl rfl rfl rfl ?_)) | (refine AOps.st 4 rfl rfl rfl (op_load_m (cs' := [_, _, _, _, _, _, _, _, _, _, _]) (i := 5) rfl ta_60 rfl rfl rfl rfl ?_)) | (refine AOps.st 4 rfl rfl rfl (op_load_c (cs' := [_, _, _, _, _, _, _, _, _, _, _]) rfl ta_60 rfl rfl rfl ?_))
  refine AOps.st 5 rfl rfl rfl (op_callm (xs := [.tmp 2, .tmp 4])  [] rfl rfl rfl HC (Les.refl _) (fun v5 M5 h5 => ?_))
  refine AOps.nil ?_
  refine go_end ?_
  exact out_none rfl (MLe.refl _) h5
end Go.Proofs.Ytjgjnheeohfmmaa
