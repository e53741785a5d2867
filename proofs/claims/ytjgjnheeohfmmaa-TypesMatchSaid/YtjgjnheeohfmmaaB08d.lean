/- All, Vars, Metas of the document; Args of the program; smalls -/
import Derived.Test.YtjgjnheeohfmmaaB08b
import Derived.Test.YtjgjnheeohfmmaaB08c
namespace Go.Proofs.Ytjgjnheeohfmmaa
open Go.RowKit
set_option maxRecDepth 100000 in
theorem All_c (d : Nat) : ∀ t : Ty, t.size ≤ d → t.size ≤ 1000000 → OCall Try.prog 32 [.agg t.cells] 24 4 (Ty.cellss t.all) := by
  induction d with
  | zero => intro t hd; have := Ty.size_pos t; omega
  | succ d ih =>
    rintro ⟨k, s, n, ks⟩ hd hmx
    have hl := Ty.cellss_len ks
    have hls := Ty.len_sizes ks
    rw [Ty.size] at hd hmx
    refine ACall.enter Try.func32 rfl (by kernel_rfl) rfl (Nat.le_of_ble_eq_true rfl) ?_
    refine c_start ?_
    refine c_seq ?_
    refine c_region ?_
    refine AOps.st 1 rfl rfl rfl (op_box rfl rfl rfl ?_); intro b1
    refine AOps.st 2 rfl rfl rfl (op_assign rfl rfl ?_)
    refine AOps.nil ?_
    refine go_code ?_
    refine c_seq ?_
    refine c_region ?_
    first | (refine AOps.st 5 rfl rfl rfl (op_load_m (i := 0) rfl ta_24 rfl rfl rfl rfl ?_)) | (refine AOps.st 5 rfl rfl rfl (op_load_m (i := 1) rfl ta_24 rfl rfl rfl rfl ?_)) | (refine AOps.st 5 rfl rfl rfl (op_load_m (i := 2) rfl ta_24 rfl rfl rfl rfl ?_)) | (refine AOps.st 5 rfl rfl rfl (op_load_m (i := 3) rfl ta_24 rfl rfl rfl rfl ?_)) | (refine AOps.st 5 rfl rfl rfl (op_load_m (i := 4) rfl ta_24 rfl rfl rfl rfl ?_)) | (refine AOps.st 5 rfl rfl rfl (op_load_m (i := 5) rfl ta_24 rfl rfl rfl rfl ?_)) | (refine AOps.st 5 rfl rfl rfl (op_load_c rfl ta_24 rfl rfl rfl ?_))
    refine AOps.st 6 rfl rfl rfl (op_buildSlice_own (xs := [.tmp 5]) el_22 rfl rfl rfl rfl rfl rfl (Nat.le_of_ble_eq_true rfl) ?_); intro u6
    refine AOps.st 3 rfl rfl rfl (op_assign rfl rfl ?_)
    refine AOps.nil ?_
    refine go_code ?_
    refine c_seq ?_
    refine c_seq ?_
    refine c_region ?_
    refine AOps.st 4 rfl rfl rfl (op_assign rfl rfl ?_)
    refine AOps.nil ?_
    refine go_code ?_
    refine c_block ?_
    refine c_loop (σ := Nat × Value) (fun zz => match zz with | (i, u) => [(1, .ptr b1 0), (3, .own u 4 (Ty.cellss (.mk k s n ks :: Ty.alls (ks.take i)))), (4, .val (.int .i64 i))]) (fun zz => match zz with | (i, u) => [.own 24 4 u, .loc b1 [.val (.int .i64 k), .val (.string s), .val (.int .i64 n), .seq 4 (Ty.cellss ks)]]) (fun zz => match zz with | (i, u) => i ≤ ks.length) (fun zz => match zz with | (i, u) => ks.length - i) ((0, u6)) ?_ ?_ ?_ ?_
    · simp
    · exact (by repeat' (first | exact SLe.nil _ | refine SLe.cons rfl ?_ ?_ | exact Le.refl _ | exact Le.own _ _ _ | exact Le.nil _))
    · exact (by first | exact MLe.none _ | exact MLe.refl _ | (repeat' (first | exact MLe.nil | exact MLe.refl _ | refine MLe.cons _ ?_ | refine MLe.drop _ ?_)))
    rintro ⟨i, u⟩ hI
    refine c_seq ?_
    refine c_seq ?_
    refine c_region ?_
    refine AOps.st 7 rfl rfl rfl (op_move rfl rfl ?_)
    first | (refine AOps.st 8 rfl rfl rfl (op_fieldAddr_m rfl tf_24_3 rfl ?_)) | (refine AOps.st 8 rfl rfl rfl (op_fieldAddr_c rfl tf_24_3 rfl rfl ?_))
    first | (refine AOps.st 9 rfl rfl rfl (op_load_m1 (i := 0) rfl ta_22 rfl rfl rfl ?_)) | (refine AOps.st 9 rfl rfl rfl (op_load_m1 (i := 1) rfl ta_22 rfl rfl rfl ?_)) | (refine AOps.st 9 rfl rfl rfl (op_load_m1 (i := 2) rfl ta_22 rfl rfl rfl ?_)) | (refine AOps.st 9 rfl rfl rfl (op_load_m1 (i := 3) rfl ta_22 rfl rfl rfl ?_)) | (refine AOps.st 9 rfl rfl rfl (op_load_m1 (i := 4) rfl ta_22 rfl rfl rfl ?_)) | (refine AOps.st 9 rfl rfl rfl (op_load_m1 (i := 5) rfl ta_22 rfl rfl rfl ?_)) | (refine AOps.st 9 rfl rfl rfl (op_load_c1 rfl ta_22 rfl rfl ?_))
    first | (refine AOps.st 10 rfl rfl rfl (op_len rfl tu_22 rfl (.seq _ _) (fun n10 => ?_))) | (refine AOps.st 10 rfl rfl rfl (op_len rfl tu_22 rfl (.own _ _ _) (fun n10 => ?_))) | (refine AOps.st 10 rfl rfl rfl (op_len rfl tu_22 rfl (.nil 0) (fun n10 => ?_))) | (refine AOps.st 10 rfl rfl rfl (op_len_arr rfl tu_22 rfl ?_))
    refine AOps.st 11 rfl rfl rfl (op_lss rfl rfl rfl ?_); intro c11 h11
    refine AOps.nil ?_
    refine go_code ?_
    rcases bool_split h11 with ⟨rfl, g11⟩ | ⟨rfl, g11⟩
    · refine c_cond_f rfl ?_
      refine c_exit ?_
      refine x_code ?_
      refine x_lp ?_
      refine x_here ?_
      refine go_code ?_
      refine c_seq ?_
      refine c_region ?_
      refine AOps.st 22 rfl rfl rfl (op_move rfl rfl ?_)
      refine AOps.st 2 rfl rfl rfl (op_assign rfl rfl ?_)
      refine AOps.nil ?_
      refine go_code ?_
      refine c_ret ?_
      refine out_tmp rfl rfl (Le.own_eq ?_) (by first | exact MLe.none _ | exact MLe.refl _ | (repeat' (first | exact MLe.nil | exact MLe.refl _ | refine MLe.cons _ ?_ | refine MLe.drop _ ?_))) ⟨_, rfl, rfl⟩
      rw [List.take_of_length_le (by omega), Ty.all]
    · refine c_cond_t rfl ?_
      refine c_skip ?_
      refine go_code ?_
      refine c_seq ?_
      refine c_block ?_
      obtain ⟨⟨k', s', n', ks'⟩, hx⟩ := get_some (l := ks) (i := i) (by omega)
      have hcx := Ty.cellss_get hx
      have hsz := Ty.size_at hx
      have hst := Ty.sizes_take ks i
      have e : Ty.cellss (.mk k s n ks :: Ty.alls (ks.take i)) ++ Ty.cellss (Ty.all (.mk k' s' n' ks')) = Ty.cellss (.mk k s n ks :: Ty.alls (ks.take (i + 1))) := by rw [Ty.alls_take ks hx, ← Ty.cellss_app]; rfl
      refine c_region ?_
      refine AOps.st 14 rfl rfl rfl (op_move rfl rfl ?_)
      first | (refine AOps.st 15 rfl rfl rfl (op_fieldAddr_m rfl tf_24_3 rfl ?_)) | (refine AOps.st 15 rfl rfl rfl (op_fieldAddr_c rfl tf_24_3 rfl rfl ?_))
      first | (refine AOps.st 16 rfl rfl rfl (op_load_m1 (i := 0) rfl ta_22 rfl rfl rfl ?_)) | (refine AOps.st 16 rfl rfl rfl (op_load_m1 (i := 1) rfl ta_22 rfl rfl rfl ?_)) | (refine AOps.st 16 rfl rfl rfl (op_load_m1 (i := 2) rfl ta_22 rfl rfl rfl ?_)) | (refine AOps.st 16 rfl rfl rfl (op_load_m1 (i := 3) rfl ta_22 rfl rfl rfl ?_)) | (refine AOps.st 16 rfl rfl rfl (op_load_m1 (i := 4) rfl ta_22 rfl rfl rfl ?_)) | (refine AOps.st 16 rfl rfl rfl (op_load_m1 (i := 5) rfl ta_22 rfl rfl rfl ?_)) | (refine AOps.st 16 rfl rfl rfl (op_load_c1 rfl ta_22 rfl rfl ?_))
      refine AOps.st 17 rfl rfl rfl (op_move rfl rfl ?_)
      first | (refine AOps.st 18 rfl rfl rfl (op_index rfl te_22 rfl (.seq _ _) rfl rfl (by assumption) ?_)) | (refine AOps.st 18 rfl rfl rfl (op_index (i := 0) rfl te_22 rfl (.seq _ _) rfl rfl (by first | rfl | assumption) ?_)) | (refine AOps.st 18 rfl rfl rfl (op_index (i := 1) rfl te_22 rfl (.seq _ _) rfl rfl (by first | rfl | assumption) ?_)) | (refine AOps.st 18 rfl rfl rfl (op_index rfl te_22 rfl (.own _ _ _) rfl rfl (by assumption) ?_)) | (refine AOps.st 18 rfl rfl rfl (op_index (i := 0) rfl te_22 rfl (.own _ _ _) rfl rfl (by first | rfl | assumption) ?_)) | (refine AOps.st 18 rfl rfl rfl (op_index (i := 1) rfl te_22 rfl (.own _ _ _) rfl rfl (by first | rfl | assumption) ?_)) | (refine AOps.st 18 rfl rfl rfl (op_index_arr rfl te_22 rfl rfl rfl (by omega) ?_))
      first | (refine AOps.st 19 rfl rfl rfl (op_load_m (i := 0) rfl ta_24 rfl rfl rfl rfl ?_)) | (refine AOps.st 19 rfl rfl rfl (op_load_m (i := 1) rfl ta_24 rfl rfl rfl rfl ?_)) | (refine AOps.st 19 rfl rfl rfl (op_load_m (i := 2) rfl ta_24 rfl rfl rfl rfl ?_)) | (refine AOps.st 19 rfl rfl rfl (op_load_m (i := 3) rfl ta_24 rfl rfl rfl rfl ?_)) | (refine AOps.st 19 rfl rfl rfl (op_load_m (i := 4) rfl ta_24 rfl rfl rfl rfl ?_)) | (refine AOps.st 19 rfl rfl rfl (op_load_m (i := 5) rfl ta_24 rfl rfl rfl rfl ?_)) | (refine AOps.st 19 rfl rfl rfl (op_load_c rfl ta_24 rfl rfl rfl ?_))
      refine AOps.st 20 rfl rfl rfl (op_callo (xs := [.tmp 19]) rfl rfl (ih (.mk k' s' n' ks') (by omega) (by omega)) (by first | exact Les.refl _ | (repeat' (first | exact Les.refl _ | refine Les.cons ?_ ?_ | exact Le.refl _ | exact Le.own _ _ _ | exact Le.nil _ | refine Le.agg ?_))) ?_); intro u20
      first | (refine AOps.st 21 rfl rfl rfl (op_append (i := 0) el_22 rfl rfl rfl rfl (.seq _ _) (by simp only [Ty.cellss_len, List.length_cons, Ty.all_len, Ty.alls_len]; omega) ?_)) | (refine AOps.st 21 rfl rfl rfl (op_append (i := 1) el_22 rfl rfl rfl rfl (.seq _ _) (by simp only [Ty.cellss_len, List.length_cons, Ty.all_len, Ty.alls_len]; omega) ?_)) | (refine AOps.st 21 rfl rfl rfl (op_append (i := 2) el_22 rfl rfl rfl rfl (.seq _ _) (by simp only [Ty.cellss_len, List.length_cons, Ty.all_len, Ty.alls_len]; omega) ?_)) | (refine AOps.st 21 rfl rfl rfl (op_append (i := 3) el_22 rfl rfl rfl rfl (.seq _ _) (by simp only [Ty.cellss_len, List.length_cons, Ty.all_len, Ty.alls_len]; omega) ?_)) | (refine AOps.st 21 rfl rfl rfl (op_append (i := 0) el_22 rfl rfl rfl rfl (.own _ _ _) (by simp only [Ty.cellss_len, List.length_cons, Ty.all_len, Ty.alls_len]; omega) ?_)) | (refine AOps.st 21 rfl rfl rfl (op_append (i := 1) el_22 rfl rfl rfl rfl (.own _ _ _) (by simp only [Ty.cellss_len, List.length_cons, Ty.all_len, Ty.alls_len]; omega) ?_)) | (refine AOps.st 21 rfl rfl rfl (op_append (i := 2) el_22 rfl rfl rfl rfl (.own _ _ _) (by simp only [Ty.cellss_len, List.length_cons, Ty.all_len, Ty.alls_len]; omega) ?_)) | (refine AOps.st 21 rfl rfl rfl (op_append (i := 3) el_22 rfl rfl rfl rfl (.own _ _ _) (by simp only [Ty.cellss_len, List.length_cons, Ty.all_len, Ty.alls_len]; omega) ?_)) | (refine AOps.st 21 rfl rfl rfl (op_append (i := 0) el_22 rfl rfl rfl rfl (.nil _) (by simp only [Ty.cellss_len, List.length_cons, Ty.all_len, Ty.alls_len]; omega) ?_)) | (refine AOps.st 21 rfl rfl rfl (op_append (i := 1) el_22 rfl rfl rfl rfl (.nil _) (by simp only [Ty.cellss_len, List.length_cons, Ty.all_len, Ty.alls_len]; omega) ?_)) | (refine AOps.st 21 rfl rfl rfl (op_append (i := 2) el_22 rfl rfl rfl rfl (.nil _) (by simp only [Ty.cellss_len, List.length_cons, Ty.all_len, Ty.alls_len]; omega) ?_)) | (refine AOps.st 21 rfl rfl rfl (op_append (i := 3) el_22 rfl rfl rfl rfl (.nil _) (by simp only [Ty.cellss_len, List.length_cons, Ty.all_len, Ty.alls_len]; omega) ?_)) | (refine AOps.st 21 rfl rfl rfl (op_append_nil el_22 rfl rfl rfl (.seq _ _) (by simp only [Ty.cellss_len, List.length_cons, Ty.all_len, Ty.alls_len]; omega) ?_)) | (refine AOps.st 21 rfl rfl rfl (op_append_nil el_22 rfl rfl rfl (.own _ _ _) (by simp only [Ty.cellss_len, List.length_cons, Ty.all_len, Ty.alls_len]; omega) ?_)) | (refine AOps.st 21 rfl rfl rfl (op_append_nil el_22 rfl rfl rfl (.nil _) (by simp only [Ty.cellss_len, List.length_cons, Ty.all_len, Ty.alls_len]; omega) ?_))
      intro u21
      refine AOps.st 3 rfl rfl rfl (op_assign rfl rfl ?_)
      refine AOps.nil ?_
      refine go_blk ?_
      refine go_code ?_
      refine c_region ?_
      refine AOps.st 12 rfl rfl rfl (op_move rfl rfl ?_)
      first | (refine AOps.st 13 rfl rfl rfl (op_add rfl rfl rfl (IntWalk.i64_in _ (by omega)) ?_)) | (refine AOps.st 13 rfl rfl rfl (op_add rfl rfl rfl rfl ?_))
      refine AOps.st 4 rfl rfl rfl (op_assign rfl rfl ?_)
      refine AOps.nil ?_
      refine go_lp ?_
      exact ⟨(i + 1, u21), by simp; omega, by simp; omega, (by repeat' (first | exact SLe.nil _ | refine SLe.cons rfl ?_ ?_ | exact Le.refl _ | exact Le.own _ _ _ | exact Le.nil _ | (refine Le.own_eq ?_; exact e) | (refine Le.own_seq ?_; exact e) | (refine Le.seq_eq ?_; exact e))), (by first | exact MLe.none _ | exact MLe.refl _ | (repeat' (first | exact MLe.nil | exact MLe.refl _ | refine MLe.cons _ ?_ | refine MLe.drop _ ?_)))⟩
set_option maxRecDepth 100000 in
theorem rVars_c (t : Ty) (hmx : t.size ≤ 1000000) : OCall Try.prog 27 [.agg t.cells] 9 1 (strs t.vars) := by
  have hA := All_c t.size t (Nat.le_refl _) hmx
  have hal := Ty.all_len t
  have hl := Ty.cellss_len t.all
  unfold Ty.vars
  generalize Ty.all t = A at hA hal hl
  obtain ⟨k, s, n, ks⟩ := t
  refine ACall.enter Try.func27 rfl (by kernel_rfl) rfl (Nat.le_of_ble_eq_true rfl) ?_
  refine c_start ?_
  refine c_seq ?_
  refine c_region ?_
  refine AOps.st 1 rfl rfl rfl (op_box rfl rfl rfl ?_); intro b1
  refine AOps.st 2 rfl rfl rfl (op_assign rfl rfl ?_)
  refine AOps.nil ?_
  refine go_code ?_
  refine c_seq ?_
  refine c_region ?_
  first | (refine AOps.st 6 rfl rfl rfl (op_load_m (i := 0) rfl ta_24 rfl rfl rfl rfl ?_)) | (refine AOps.st 6 rfl rfl rfl (op_load_m (i := 1) rfl ta_24 rfl rfl rfl rfl ?_)) | (refine AOps.st 6 rfl rfl rfl (op_load_m (i := 2) rfl ta_24 rfl rfl rfl rfl ?_)) | (refine AOps.st 6 rfl rfl rfl (op_load_m (i := 3) rfl ta_24 rfl rfl rfl rfl ?_)) | (refine AOps.st 6 rfl rfl rfl (op_load_m (i := 4) rfl ta_24 rfl rfl rfl rfl ?_)) | (refine AOps.st 6 rfl rfl rfl (op_load_m (i := 5) rfl ta_24 rfl rfl rfl rfl ?_)) | (refine AOps.st 6 rfl rfl rfl (op_load_c rfl ta_24 rfl rfl rfl ?_))
  refine AOps.st 7 rfl rfl rfl (op_callo (xs := [.tmp 6]) rfl rfl (hA) (by first | exact Les.refl _ | (repeat' (first | exact Les.refl _ | refine Les.cons ?_ ?_ | exact Le.refl _ | exact Le.own _ _ _ | exact Le.nil _ | refine Le.agg ?_))) ?_); intro u7
  refine AOps.st 3 rfl rfl rfl (op_assign rfl rfl ?_)
  refine AOps.nil ?_
  refine go_code ?_
  refine c_seq ?_
  refine c_region ?_
  refine AOps.st 4 rfl rfl rfl (op_assign rfl rfl ?_)
  refine AOps.nil ?_
  refine go_code ?_
  refine c_seq ?_
  refine c_seq ?_
  refine c_region ?_
  refine AOps.st 5 rfl rfl rfl (op_assign rfl rfl ?_)
  refine AOps.nil ?_
  refine go_code ?_
  refine c_block ?_
  refine ACode.ownNil (t := 4) 9 1 rfl ?_
  refine c_loop (σ := Nat × Value) (fun zz => match zz with | (i, u) => [(3, .seq 4 (Ty.cellss A)), (4, .own u 1 (strs ((A.take i).foldl addVar []))), (5, .val (.int .i64 i))]) (fun zz => match zz with | (i, u) => [.own 9 1 u]) (fun zz => match zz with | (i, u) => i ≤ A.length) (fun zz => match zz with | (i, u) => A.length - i) ((0, .slice none 0 0)) ?_ ?_ ?_ ?_
  · simp
  · exact (by repeat' (first | exact SLe.nil _ | refine SLe.cons rfl ?_ ?_ | exact Le.refl _ | exact Le.own _ _ _ | exact Le.nil _))
  · exact (by first | exact MLe.none _ | exact MLe.refl _ | (repeat' (first | exact MLe.nil | exact MLe.refl _ | refine MLe.cons _ ?_ | refine MLe.drop _ ?_)))
  rintro ⟨i, u⟩ hI
  refine c_seq ?_
  refine c_seq ?_
  refine c_region ?_
  refine AOps.st 8 rfl rfl rfl (op_move rfl rfl ?_)
  refine AOps.st 9 rfl rfl rfl (op_move rfl rfl ?_)
  first | (refine AOps.st 10 rfl rfl rfl (op_len rfl tu_22 rfl (.seq _ _) (fun n10 => ?_))) | (refine AOps.st 10 rfl rfl rfl (op_len rfl tu_22 rfl (.own _ _ _) (fun n10 => ?_))) | (refine AOps.st 10 rfl rfl rfl (op_len rfl tu_22 rfl (.nil 0) (fun n10 => ?_))) | (refine AOps.st 10 rfl rfl rfl (op_len_arr rfl tu_22 rfl ?_))
  refine AOps.st 11 rfl rfl rfl (op_lss rfl rfl rfl ?_); intro c11 h11
  refine AOps.nil ?_
  refine go_code ?_
  rcases bool_split h11 with ⟨rfl, g11⟩ | ⟨rfl, g11⟩
  · refine c_cond_f rfl ?_
    refine c_exit ?_
    refine x_code ?_
    refine x_lp ?_
    refine x_here ?_
    refine go_code ?_
    refine c_seq ?_
    refine c_region ?_
    refine AOps.st 38 rfl rfl rfl (op_move rfl rfl ?_)
    refine AOps.st 2 rfl rfl rfl (op_assign rfl rfl ?_)
    refine AOps.nil ?_
    refine go_code ?_
    refine c_ret ?_
    refine out_tmp rfl rfl (Le.own_eq ?_) (by first | exact MLe.none _ | exact MLe.refl _ | (repeat' (first | exact MLe.nil | exact MLe.refl _ | refine MLe.cons _ ?_ | refine MLe.drop _ ?_))) ⟨_, rfl, rfl⟩
    rw [List.take_of_length_le (by omega)]
  · refine c_cond_t rfl ?_
    refine c_skip ?_
    refine go_code ?_
    refine c_seq ?_
    refine c_block ?_
    refine c_seq ?_
    obtain ⟨⟨xk, xs, xn, xks⟩, hx⟩ := get_some (l := A) (i := i) (by omega)
    have hcx := Ty.cellss_get hx
    have hfl := foldVar_len (A.take i) []
    have hts : (A.take (i + 1)).foldl addVar [] = addVar ((A.take i).foldl addVar []) (.mk xk xs xn xks) := by rw [take_snoc hx, List.foldl_append]; rfl
    refine c_bool 29 (xk = 1 ∧ xs ∉ (A.take i).foldl addVar []) ?_ _ _ rfl ?_
    · skip
      refine AOps.st 14 rfl rfl rfl (op_move rfl rfl ?_)
      refine AOps.st 15 rfl rfl rfl (op_move rfl rfl ?_)
      first | (refine AOps.st 16 rfl rfl rfl (op_index rfl te_22 rfl (.seq _ _) rfl rfl (by assumption) ?_)) | (refine AOps.st 16 rfl rfl rfl (op_index (i := 0) rfl te_22 rfl (.seq _ _) rfl rfl (by first | rfl | assumption) ?_)) | (refine AOps.st 16 rfl rfl rfl (op_index (i := 1) rfl te_22 rfl (.seq _ _) rfl rfl (by first | rfl | assumption) ?_)) | (refine AOps.st 16 rfl rfl rfl (op_index rfl te_22 rfl (.own _ _ _) rfl rfl (by assumption) ?_)) | (refine AOps.st 16 rfl rfl rfl (op_index (i := 0) rfl te_22 rfl (.own _ _ _) rfl rfl (by first | rfl | assumption) ?_)) | (refine AOps.st 16 rfl rfl rfl (op_index (i := 1) rfl te_22 rfl (.own _ _ _) rfl rfl (by first | rfl | assumption) ?_)) | (refine AOps.st 16 rfl rfl rfl (op_index_arr rfl te_22 rfl rfl rfl (by omega) ?_))
      first | (refine AOps.st 17 rfl rfl rfl (op_fieldAddr_m rfl tf_24_0 rfl ?_)) | (refine AOps.st 17 rfl rfl rfl (op_fieldAddr_c rfl tf_24_0 rfl rfl ?_))
      first | (refine AOps.st 18 rfl rfl rfl (op_load_m1 (i := 0) rfl ta_3 rfl rfl rfl ?_)) | (refine AOps.st 18 rfl rfl rfl (op_load_m1 (i := 1) rfl ta_3 rfl rfl rfl ?_)) | (refine AOps.st 18 rfl rfl rfl (op_load_m1 (i := 2) rfl ta_3 rfl rfl rfl ?_)) | (refine AOps.st 18 rfl rfl rfl (op_load_m1 (i := 3) rfl ta_3 rfl rfl rfl ?_)) | (refine AOps.st 18 rfl rfl rfl (op_load_m1 (i := 4) rfl ta_3 rfl rfl rfl ?_)) | (refine AOps.st 18 rfl rfl rfl (op_load_m1 (i := 5) rfl ta_3 rfl rfl rfl ?_)) | (refine AOps.st 18 rfl rfl rfl (op_load_c1 rfl ta_3 rfl rfl ?_))
      refine AOps.st 19 rfl rfl rfl (op_eql rfl rfl rfl ?_); intro c19 h19
      refine AOps.st 20 rfl rfl rfl (op_move rfl rfl ?_)
      rcases bool_split h19 with ⟨rfl, g19⟩ | ⟨rfl, g19⟩
      · skip
        refine AOps.gf 21 rfl rfl rfl rfl rfl ?_
        refine AOps.gf 22 rfl rfl rfl rfl rfl ?_
        refine AOps.gf 23 rfl rfl rfl rfl rfl ?_
        refine AOps.gf 24 rfl rfl rfl rfl rfl ?_
        refine AOps.gf 25 rfl rfl rfl rfl rfl ?_
        refine AOps.gf 26 rfl rfl rfl rfl rfl ?_
        refine AOps.gf 27 rfl rfl rfl rfl rfl ?_
        refine AOps.gf 28 rfl rfl rfl rfl rfl ?_
        refine AOps.st 29 rfl rfl rfl (op_pick rfl rfl rfl ?_)
        refine AOps.nil ?_
        refine BoolQ.mk rfl ?_ (by repeat' (first | exact SLe.refl _ | refine SLe.fresh rfl ?_)) (by first | exact MLe.none _ | exact MLe.refl _ | (repeat' (first | exact MLe.nil | exact MLe.refl _ | refine MLe.cons _ ?_ | refine MLe.drop _ ?_)))
        simp_all
      · skip
        refine AOps.gt 21 rfl rfl rfl rfl rfl (op_move rfl rfl ?_)
        refine AOps.gt 22 rfl rfl rfl rfl rfl (op_move rfl rfl ?_)
        refine AOps.gt 23 rfl rfl rfl rfl rfl (op_move rfl rfl ?_)
        first | (refine AOps.gt 24 rfl rfl rfl rfl rfl (op_index rfl te_22 rfl (.seq _ _) rfl rfl (by assumption) ?_)) | (refine AOps.gt 24 rfl rfl rfl rfl rfl (op_index (i := 0) rfl te_22 rfl (.seq _ _) rfl rfl (by first | rfl | assumption) ?_)) | (refine AOps.gt 24 rfl rfl rfl rfl rfl (op_index (i := 1) rfl te_22 rfl (.seq _ _) rfl rfl (by first | rfl | assumption) ?_)) | (refine AOps.gt 24 rfl rfl rfl rfl rfl (op_index rfl te_22 rfl (.own _ _ _) rfl rfl (by assumption) ?_)) | (refine AOps.gt 24 rfl rfl rfl rfl rfl (op_index (i := 0) rfl te_22 rfl (.own _ _ _) rfl rfl (by first | rfl | assumption) ?_)) | (refine AOps.gt 24 rfl rfl rfl rfl rfl (op_index (i := 1) rfl te_22 rfl (.own _ _ _) rfl rfl (by first | rfl | assumption) ?_)) | (refine AOps.gt 24 rfl rfl rfl rfl rfl (op_index_arr rfl te_22 rfl rfl rfl (by omega) ?_))
        first | (refine AOps.gt 25 rfl rfl rfl rfl rfl (op_fieldAddr_m rfl tf_24_1 rfl ?_)) | (refine AOps.gt 25 rfl rfl rfl rfl rfl (op_fieldAddr_c rfl tf_24_1 rfl rfl ?_))
        first | (refine AOps.gt 26 rfl rfl rfl rfl rfl (op_load_m1 (i := 0) rfl ta_9 rfl rfl rfl ?_)) | (refine AOps.gt 26 rfl rfl rfl rfl rfl (op_load_m1 (i := 1) rfl ta_9 rfl rfl rfl ?_)) | (refine AOps.gt 26 rfl rfl rfl rfl rfl (op_load_m1 (i := 2) rfl ta_9 rfl rfl rfl ?_)) | (refine AOps.gt 26 rfl rfl rfl rfl rfl (op_load_m1 (i := 3) rfl ta_9 rfl rfl rfl ?_)) | (refine AOps.gt 26 rfl rfl rfl rfl rfl (op_load_m1 (i := 4) rfl ta_9 rfl rfl rfl ?_)) | (refine AOps.gt 26 rfl rfl rfl rfl rfl (op_load_m1 (i := 5) rfl ta_9 rfl rfl rfl ?_)) | (refine AOps.gt 26 rfl rfl rfl rfl rfl (op_load_c1 rfl ta_9 rfl rfl ?_))
        refine AOps.gt 27 rfl rfl rfl rfl rfl (op_callb (xs := [.tmp 21, .tmp 26]) rfl rfl (Has_c ((A.take i).foldl addVar []) xs) (by first | exact Les.refl _ | (repeat' (first | exact Les.refl _ | refine Les.cons ?_ ?_ | exact Le.refl _ | exact Le.own _ _ _ | exact Le.nil _ | refine Le.agg ?_))) ?_); intro c27 h27
        refine AOps.gt 28 rfl rfl rfl rfl rfl (op_notc rfl rfl ?_); intro c28 h28
        try replace h28 := nott h28 h27
        refine AOps.st 29 rfl rfl rfl (op_pick rfl rfl rfl ?_)
        refine AOps.nil ?_
        refine BoolQ.mk rfl ?_ (by repeat' (first | exact SLe.refl _ | refine SLe.fresh rfl ?_)) (by first | exact MLe.none _ | exact MLe.refl _ | (repeat' (first | exact MLe.nil | exact MLe.refl _ | refine MLe.cons _ ?_ | refine MLe.drop _ ?_)))
        simp_all
    intro c29 h29
    refine go_code ?_
    rcases bool_split h29 with ⟨rfl, g29⟩ | ⟨rfl, g29⟩
    · refine c_cond_f rfl ?_
      refine c_skip ?_
      refine go_blk ?_
      refine go_code ?_
      refine c_region ?_
      refine AOps.st 12 rfl rfl rfl (op_move rfl rfl ?_)
      first | (refine AOps.st 13 rfl rfl rfl (op_add rfl rfl rfl (IntWalk.i64_in _ (by omega)) ?_)) | (refine AOps.st 13 rfl rfl rfl (op_add rfl rfl rfl rfl ?_))
      refine AOps.st 5 rfl rfl rfl (op_assign rfl rfl ?_)
      refine AOps.nil ?_
      refine go_lp ?_
      first | exact ⟨(i + 1, u37), by simp; omega, by simp; omega, (by repeat' (first | exact SLe.nil _ | refine SLe.cons rfl ?_ ?_ | exact Le.refl _ | exact Le.own _ _ _ | exact Le.nil _ | (refine Le.own_eq ?_; (rw [hts, addVar_yes g29]; exact strs_snoc _ _)) | (refine Le.own_seq ?_; (rw [hts, addVar_yes g29]; exact strs_snoc _ _)) | (refine Le.seq_eq ?_; (rw [hts, addVar_yes g29]; exact strs_snoc _ _)))), (by first | exact MLe.none _ | exact MLe.refl _ | (repeat' (first | exact MLe.nil | exact MLe.refl _ | refine MLe.cons _ ?_ | refine MLe.drop _ ?_)))⟩ | exact ⟨(i + 1, u), by simp; omega, by simp; omega, (by repeat' (first | exact SLe.nil _ | refine SLe.cons rfl ?_ ?_ | exact Le.refl _ | exact Le.own _ _ _ | exact Le.nil _ | (refine Le.own_eq ?_; (rw [hts, addVar_no g29])) | (refine Le.own_seq ?_; (rw [hts, addVar_no g29])) | (refine Le.seq_eq ?_; (rw [hts, addVar_no g29])))), (by first | exact MLe.none _ | exact MLe.refl _ | (repeat' (first | exact MLe.nil | exact MLe.refl _ | refine MLe.cons _ ?_ | refine MLe.drop _ ?_)))⟩
    · refine c_cond_t rfl ?_
      refine c_region ?_
      refine AOps.st 30 rfl rfl rfl (op_move rfl rfl ?_)
      refine AOps.st 31 rfl rfl rfl (op_move rfl rfl ?_)
      refine AOps.st 32 rfl rfl rfl (op_move rfl rfl ?_)
      first | (refine AOps.st 33 rfl rfl rfl (op_index rfl te_22 rfl (.seq _ _) rfl rfl (by assumption) ?_)) | (refine AOps.st 33 rfl rfl rfl (op_index (i := 0) rfl te_22 rfl (.seq _ _) rfl rfl (by first | rfl | assumption) ?_)) | (refine AOps.st 33 rfl rfl rfl (op_index (i := 1) rfl te_22 rfl (.seq _ _) rfl rfl (by first | rfl | assumption) ?_)) | (refine AOps.st 33 rfl rfl rfl (op_index rfl te_22 rfl (.own _ _ _) rfl rfl (by assumption) ?_)) | (refine AOps.st 33 rfl rfl rfl (op_index (i := 0) rfl te_22 rfl (.own _ _ _) rfl rfl (by first | rfl | assumption) ?_)) | (refine AOps.st 33 rfl rfl rfl (op_index (i := 1) rfl te_22 rfl (.own _ _ _) rfl rfl (by first | rfl | assumption) ?_)) | (refine AOps.st 33 rfl rfl rfl (op_index_arr rfl te_22 rfl rfl rfl (by omega) ?_))
      first | (refine AOps.st 34 rfl rfl rfl (op_fieldAddr_m rfl tf_24_1 rfl ?_)) | (refine AOps.st 34 rfl rfl rfl (op_fieldAddr_c rfl tf_24_1 rfl rfl ?_))
      first | (refine AOps.st 35 rfl rfl rfl (op_load_m1 (i := 0) rfl ta_9 rfl rfl rfl ?_)) | (refine AOps.st 35 rfl rfl rfl (op_load_m1 (i := 1) rfl ta_9 rfl rfl rfl ?_)) | (refine AOps.st 35 rfl rfl rfl (op_load_m1 (i := 2) rfl ta_9 rfl rfl rfl ?_)) | (refine AOps.st 35 rfl rfl rfl (op_load_m1 (i := 3) rfl ta_9 rfl rfl rfl ?_)) | (refine AOps.st 35 rfl rfl rfl (op_load_m1 (i := 4) rfl ta_9 rfl rfl rfl ?_)) | (refine AOps.st 35 rfl rfl rfl (op_load_m1 (i := 5) rfl ta_9 rfl rfl rfl ?_)) | (refine AOps.st 35 rfl rfl rfl (op_load_c1 rfl ta_9 rfl rfl ?_))
      refine AOps.st 36 rfl rfl rfl (op_buildSlice (xs := [.tmp 35]) el_27 rfl rfl rfl rfl rfl rfl (Nat.le_of_ble_eq_true rfl) ?_)
      first | (refine AOps.st 37 rfl rfl rfl (op_append (i := 0) el_27 rfl rfl rfl rfl (.seq _ _) (by simp [strs_len] at hfl ⊢; omega) ?_)) | (refine AOps.st 37 rfl rfl rfl (op_append (i := 1) el_27 rfl rfl rfl rfl (.seq _ _) (by simp [strs_len] at hfl ⊢; omega) ?_)) | (refine AOps.st 37 rfl rfl rfl (op_append (i := 2) el_27 rfl rfl rfl rfl (.seq _ _) (by simp [strs_len] at hfl ⊢; omega) ?_)) | (refine AOps.st 37 rfl rfl rfl (op_append (i := 3) el_27 rfl rfl rfl rfl (.seq _ _) (by simp [strs_len] at hfl ⊢; omega) ?_)) | (refine AOps.st 37 rfl rfl rfl (op_append (i := 0) el_27 rfl rfl rfl rfl (.own _ _ _) (by simp [strs_len] at hfl ⊢; omega) ?_)) | (refine AOps.st 37 rfl rfl rfl (op_append (i := 1) el_27 rfl rfl rfl rfl (.own _ _ _) (by simp [strs_len] at hfl ⊢; omega) ?_)) | (refine AOps.st 37 rfl rfl rfl (op_append (i := 2) el_27 rfl rfl rfl rfl (.own _ _ _) (by simp [strs_len] at hfl ⊢; omega) ?_)) | (refine AOps.st 37 rfl rfl rfl (op_append (i := 3) el_27 rfl rfl rfl rfl (.own _ _ _) (by simp [strs_len] at hfl ⊢; omega) ?_)) | (refine AOps.st 37 rfl rfl rfl (op_append (i := 0) el_27 rfl rfl rfl rfl (.nil _) (by simp [strs_len] at hfl ⊢; omega) ?_)) | (refine AOps.st 37 rfl rfl rfl (op_append (i := 1) el_27 rfl rfl rfl rfl (.nil _) (by simp [strs_len] at hfl ⊢; omega) ?_)) | (refine AOps.st 37 rfl rfl rfl (op_append (i := 2) el_27 rfl rfl rfl rfl (.nil _) (by simp [strs_len] at hfl ⊢; omega) ?_)) | (refine AOps.st 37 rfl rfl rfl (op_append (i := 3) el_27 rfl rfl rfl rfl (.nil _) (by simp [strs_len] at hfl ⊢; omega) ?_)) | (refine AOps.st 37 rfl rfl rfl (op_append_nil el_27 rfl rfl rfl (.seq _ _) (by simp [strs_len] at hfl ⊢; omega) ?_)) | (refine AOps.st 37 rfl rfl rfl (op_append_nil el_27 rfl rfl rfl (.own _ _ _) (by simp [strs_len] at hfl ⊢; omega) ?_)) | (refine AOps.st 37 rfl rfl rfl (op_append_nil el_27 rfl rfl rfl (.nil _) (by simp [strs_len] at hfl ⊢; omega) ?_))
      intro u37
      refine AOps.st 4 rfl rfl rfl (op_assign rfl rfl ?_)
      refine AOps.nil ?_
      refine go_blk ?_
      refine go_code ?_
      refine c_region ?_
      refine AOps.st 12 rfl rfl rfl (op_move rfl rfl ?_)
      first | (refine AOps.st 13 rfl rfl rfl (op_add rfl rfl rfl (IntWalk.i64_in _ (by omega)) ?_)) | (refine AOps.st 13 rfl rfl rfl (op_add rfl rfl rfl rfl ?_))
      refine AOps.st 5 rfl rfl rfl (op_assign rfl rfl ?_)
      refine AOps.nil ?_
      refine go_lp ?_
      first | exact ⟨(i + 1, u37), by simp; omega, by simp; omega, (by repeat' (first | exact SLe.nil _ | refine SLe.cons rfl ?_ ?_ | exact Le.refl _ | exact Le.own _ _ _ | exact Le.nil _ | (refine Le.own_eq ?_; (rw [hts, addVar_yes g29]; exact strs_snoc _ _)) | (refine Le.own_seq ?_; (rw [hts, addVar_yes g29]; exact strs_snoc _ _)) | (refine Le.seq_eq ?_; (rw [hts, addVar_yes g29]; exact strs_snoc _ _)))), (by first | exact MLe.none _ | exact MLe.refl _ | (repeat' (first | exact MLe.nil | exact MLe.refl _ | refine MLe.cons _ ?_ | refine MLe.drop _ ?_)))⟩ | exact ⟨(i + 1, u), by simp; omega, by simp; omega, (by repeat' (first | exact SLe.nil _ | refine SLe.cons rfl ?_ ?_ | exact Le.refl _ | exact Le.own _ _ _ | exact Le.nil _ | (refine Le.own_eq ?_; (rw [hts, addVar_no g29])) | (refine Le.own_seq ?_; (rw [hts, addVar_no g29])) | (refine Le.seq_eq ?_; (rw [hts, addVar_no g29])))), (by first | exact MLe.none _ | exact MLe.refl _ | (repeat' (first | exact MLe.nil | exact MLe.refl _ | refine MLe.cons _ ?_ | refine MLe.drop _ ?_)))⟩
set_option maxRecDepth 100000 in
theorem rMetas_c (t : Ty) (hmx : t.size ≤ 1000000) : OCall Try.prog 30 [.agg t.cells] 3 1 (nums t.metas) := by
  have hA := All_c t.size t (Nat.le_refl _) hmx
  have hal := Ty.all_len t
  have hl := Ty.cellss_len t.all
  unfold Ty.metas
  generalize Ty.all t = A at hA hal hl
  obtain ⟨k, s, n, ks⟩ := t
  refine ACall.enter Try.func30 rfl (by kernel_rfl) rfl (Nat.le_of_ble_eq_true rfl) ?_
  refine c_start ?_
  refine c_seq ?_
  refine c_region ?_
  refine AOps.st 1 rfl rfl rfl (op_box rfl rfl rfl ?_); intro b1
  refine AOps.st 2 rfl rfl rfl (op_assign rfl rfl ?_)
  refine AOps.nil ?_
  refine go_code ?_
  refine c_seq ?_
  refine c_region ?_
  first | (refine AOps.st 6 rfl rfl rfl (op_load_m (i := 0) rfl ta_24 rfl rfl rfl rfl ?_)) | (refine AOps.st 6 rfl rfl rfl (op_load_m (i := 1) rfl ta_24 rfl rfl rfl rfl ?_)) | (refine AOps.st 6 rfl rfl rfl (op_load_m (i := 2) rfl ta_24 rfl rfl rfl rfl ?_)) | (refine AOps.st 6 rfl rfl rfl (op_load_m (i := 3) rfl ta_24 rfl rfl rfl rfl ?_)) | (refine AOps.st 6 rfl rfl rfl (op_load_m (i := 4) rfl ta_24 rfl rfl rfl rfl ?_)) | (refine AOps.st 6 rfl rfl rfl (op_load_m (i := 5) rfl ta_24 rfl rfl rfl rfl ?_)) | (refine AOps.st 6 rfl rfl rfl (op_load_c rfl ta_24 rfl rfl rfl ?_))
  refine AOps.st 7 rfl rfl rfl (op_callo (xs := [.tmp 6]) rfl rfl (hA) (by first | exact Les.refl _ | (repeat' (first | exact Les.refl _ | refine Les.cons ?_ ?_ | exact Le.refl _ | exact Le.own _ _ _ | exact Le.nil _ | refine Le.agg ?_))) ?_); intro u7
  refine AOps.st 3 rfl rfl rfl (op_assign rfl rfl ?_)
  refine AOps.nil ?_
  refine go_code ?_
  refine c_seq ?_
  refine c_region ?_
  refine AOps.st 4 rfl rfl rfl (op_assign rfl rfl ?_)
  refine AOps.nil ?_
  refine go_code ?_
  refine c_seq ?_
  refine c_seq ?_
  refine c_region ?_
  refine AOps.st 5 rfl rfl rfl (op_assign rfl rfl ?_)
  refine AOps.nil ?_
  refine go_code ?_
  refine c_block ?_
  refine ACode.ownNil (t := 4) 3 1 rfl ?_
  refine c_loop (σ := Nat × Value) (fun zz => match zz with | (i, u) => [(3, .seq 4 (Ty.cellss A)), (4, .own u 1 (nums ((A.take i).foldl addMeta []))), (5, .val (.int .i64 i))]) (fun zz => match zz with | (i, u) => [.own 3 1 u]) (fun zz => match zz with | (i, u) => i ≤ A.length) (fun zz => match zz with | (i, u) => A.length - i) ((0, .slice none 0 0)) ?_ ?_ ?_ ?_
  · simp
  · exact (by repeat' (first | exact SLe.nil _ | refine SLe.cons rfl ?_ ?_ | exact Le.refl _ | exact Le.own _ _ _ | exact Le.nil _))
  · exact (by first | exact MLe.none _ | exact MLe.refl _ | (repeat' (first | exact MLe.nil | exact MLe.refl _ | refine MLe.cons _ ?_ | refine MLe.drop _ ?_)))
  rintro ⟨i, u⟩ hI
  refine c_seq ?_
  refine c_seq ?_
  refine c_region ?_
  refine AOps.st 8 rfl rfl rfl (op_move rfl rfl ?_)
  refine AOps.st 9 rfl rfl rfl (op_move rfl rfl ?_)
  first | (refine AOps.st 10 rfl rfl rfl (op_len rfl tu_22 rfl (.seq _ _) (fun n10 => ?_))) | (refine AOps.st 10 rfl rfl rfl (op_len rfl tu_22 rfl (.own _ _ _) (fun n10 => ?_))) | (refine AOps.st 10 rfl rfl rfl (op_len rfl tu_22 rfl (.nil 0) (fun n10 => ?_))) | (refine AOps.st 10 rfl rfl rfl (op_len_arr rfl tu_22 rfl ?_))
  refine AOps.st 11 rfl rfl rfl (op_lss rfl rfl rfl ?_); intro c11 h11
  refine AOps.nil ?_
  refine go_code ?_
  rcases bool_split h11 with ⟨rfl, g11⟩ | ⟨rfl, g11⟩
  · refine c_cond_f rfl ?_
    refine c_exit ?_
    refine x_code ?_
    refine x_lp ?_
    refine x_here ?_
    refine go_code ?_
    refine c_seq ?_
    refine c_region ?_
    refine AOps.st 38 rfl rfl rfl (op_move rfl rfl ?_)
    refine AOps.st 2 rfl rfl rfl (op_assign rfl rfl ?_)
    refine AOps.nil ?_
    refine go_code ?_
    refine c_ret ?_
    refine out_tmp rfl rfl (Le.own_eq ?_) (by first | exact MLe.none _ | exact MLe.refl _ | (repeat' (first | exact MLe.nil | exact MLe.refl _ | refine MLe.cons _ ?_ | refine MLe.drop _ ?_))) ⟨_, rfl, rfl⟩
    rw [List.take_of_length_le (by omega)]
  · refine c_cond_t rfl ?_
    refine c_skip ?_
    refine go_code ?_
    refine c_seq ?_
    refine c_block ?_
    refine c_seq ?_
    obtain ⟨⟨xk, xs, xn, xks⟩, hx⟩ := get_some (l := A) (i := i) (by omega)
    have hcx := Ty.cellss_get hx
    have hfl := foldMeta_len (A.take i) []
    have hts : (A.take (i + 1)).foldl addMeta [] = addMeta ((A.take i).foldl addMeta []) (.mk xk xs xn xks) := by rw [take_snoc hx, List.foldl_append]; rfl
    refine c_bool 29 (xk = 2 ∧ xn ∉ (A.take i).foldl addMeta []) ?_ _ _ rfl ?_
    · skip
      refine AOps.st 14 rfl rfl rfl (op_move rfl rfl ?_)
      refine AOps.st 15 rfl rfl rfl (op_move rfl rfl ?_)
      first | (refine AOps.st 16 rfl rfl rfl (op_index rfl te_22 rfl (.seq _ _) rfl rfl (by assumption) ?_)) | (refine AOps.st 16 rfl rfl rfl (op_index (i := 0) rfl te_22 rfl (.seq _ _) rfl rfl (by first | rfl | assumption) ?_)) | (refine AOps.st 16 rfl rfl rfl (op_index (i := 1) rfl te_22 rfl (.seq _ _) rfl rfl (by first | rfl | assumption) ?_)) | (refine AOps.st 16 rfl rfl rfl (op_index rfl te_22 rfl (.own _ _ _) rfl rfl (by assumption) ?_)) | (refine AOps.st 16 rfl rfl rfl (op_index (i := 0) rfl te_22 rfl (.own _ _ _) rfl rfl (by first | rfl | assumption) ?_)) | (refine AOps.st 16 rfl rfl rfl (op_index (i := 1) rfl te_22 rfl (.own _ _ _) rfl rfl (by first | rfl | assumption) ?_)) | (refine AOps.st 16 rfl rfl rfl (op_index_arr rfl te_22 rfl rfl rfl (by omega) ?_))
      first | (refine AOps.st 17 rfl rfl rfl (op_fieldAddr_m rfl tf_24_0 rfl ?_)) | (refine AOps.st 17 rfl rfl rfl (op_fieldAddr_c rfl tf_24_0 rfl rfl ?_))
      first | (refine AOps.st 18 rfl rfl rfl (op_load_m1 (i := 0) rfl ta_3 rfl rfl rfl ?_)) | (refine AOps.st 18 rfl rfl rfl (op_load_m1 (i := 1) rfl ta_3 rfl rfl rfl ?_)) | (refine AOps.st 18 rfl rfl rfl (op_load_m1 (i := 2) rfl ta_3 rfl rfl rfl ?_)) | (refine AOps.st 18 rfl rfl rfl (op_load_m1 (i := 3) rfl ta_3 rfl rfl rfl ?_)) | (refine AOps.st 18 rfl rfl rfl (op_load_m1 (i := 4) rfl ta_3 rfl rfl rfl ?_)) | (refine AOps.st 18 rfl rfl rfl (op_load_m1 (i := 5) rfl ta_3 rfl rfl rfl ?_)) | (refine AOps.st 18 rfl rfl rfl (op_load_c1 rfl ta_3 rfl rfl ?_))
      refine AOps.st 19 rfl rfl rfl (op_eql rfl rfl rfl ?_); intro c19 h19
      refine AOps.st 20 rfl rfl rfl (op_move rfl rfl ?_)
      rcases bool_split h19 with ⟨rfl, g19⟩ | ⟨rfl, g19⟩
      · skip
        refine AOps.gf 21 rfl rfl rfl rfl rfl ?_
        refine AOps.gf 22 rfl rfl rfl rfl rfl ?_
        refine AOps.gf 23 rfl rfl rfl rfl rfl ?_
        refine AOps.gf 24 rfl rfl rfl rfl rfl ?_
        refine AOps.gf 25 rfl rfl rfl rfl rfl ?_
        refine AOps.gf 26 rfl rfl rfl rfl rfl ?_
        refine AOps.gf 27 rfl rfl rfl rfl rfl ?_
        refine AOps.gf 28 rfl rfl rfl rfl rfl ?_
        refine AOps.st 29 rfl rfl rfl (op_pick rfl rfl rfl ?_)
        refine AOps.nil ?_
        refine BoolQ.mk rfl ?_ (by repeat' (first | exact SLe.refl _ | refine SLe.fresh rfl ?_)) (by first | exact MLe.none _ | exact MLe.refl _ | (repeat' (first | exact MLe.nil | exact MLe.refl _ | refine MLe.cons _ ?_ | refine MLe.drop _ ?_)))
        simp_all
      · skip
        refine AOps.gt 21 rfl rfl rfl rfl rfl (op_move rfl rfl ?_)
        refine AOps.gt 22 rfl rfl rfl rfl rfl (op_move rfl rfl ?_)
        refine AOps.gt 23 rfl rfl rfl rfl rfl (op_move rfl rfl ?_)
        first | (refine AOps.gt 24 rfl rfl rfl rfl rfl (op_index rfl te_22 rfl (.seq _ _) rfl rfl (by assumption) ?_)) | (refine AOps.gt 24 rfl rfl rfl rfl rfl (op_index (i := 0) rfl te_22 rfl (.seq _ _) rfl rfl (by first | rfl | assumption) ?_)) | (refine AOps.gt 24 rfl rfl rfl rfl rfl (op_index (i := 1) rfl te_22 rfl (.seq _ _) rfl rfl (by first | rfl | assumption) ?_)) | (refine AOps.gt 24 rfl rfl rfl rfl rfl (op_index rfl te_22 rfl (.own _ _ _) rfl rfl (by assumption) ?_)) | (refine AOps.gt 24 rfl rfl rfl rfl rfl (op_index (i := 0) rfl te_22 rfl (.own _ _ _) rfl rfl (by first | rfl | assumption) ?_)) | (refine AOps.gt 24 rfl rfl rfl rfl rfl (op_index (i := 1) rfl te_22 rfl (.own _ _ _) rfl rfl (by first | rfl | assumption) ?_)) | (refine AOps.gt 24 rfl rfl rfl rfl rfl (op_index_arr rfl te_22 rfl rfl rfl (by omega) ?_))
        first | (refine AOps.gt 25 rfl rfl rfl rfl rfl (op_fieldAddr_m rfl tf_24_2 rfl ?_)) | (refine AOps.gt 25 rfl rfl rfl rfl rfl (op_fieldAddr_c rfl tf_24_2 rfl rfl ?_))
        first | (refine AOps.gt 26 rfl rfl rfl rfl rfl (op_load_m1 (i := 0) rfl ta_3 rfl rfl rfl ?_)) | (refine AOps.gt 26 rfl rfl rfl rfl rfl (op_load_m1 (i := 1) rfl ta_3 rfl rfl rfl ?_)) | (refine AOps.gt 26 rfl rfl rfl rfl rfl (op_load_m1 (i := 2) rfl ta_3 rfl rfl rfl ?_)) | (refine AOps.gt 26 rfl rfl rfl rfl rfl (op_load_m1 (i := 3) rfl ta_3 rfl rfl rfl ?_)) | (refine AOps.gt 26 rfl rfl rfl rfl rfl (op_load_m1 (i := 4) rfl ta_3 rfl rfl rfl ?_)) | (refine AOps.gt 26 rfl rfl rfl rfl rfl (op_load_m1 (i := 5) rfl ta_3 rfl rfl rfl ?_)) | (refine AOps.gt 26 rfl rfl rfl rfl rfl (op_load_c1 rfl ta_3 rfl rfl ?_))
        refine AOps.gt 27 rfl rfl rfl rfl rfl (op_callb (xs := [.tmp 21, .tmp 26]) rfl rfl (HasInt_c ((A.take i).foldl addMeta []) xn) (by first | exact Les.refl _ | (repeat' (first | exact Les.refl _ | refine Les.cons ?_ ?_ | exact Le.refl _ | exact Le.own _ _ _ | exact Le.nil _ | refine Le.agg ?_))) ?_); intro c27 h27
        refine AOps.gt 28 rfl rfl rfl rfl rfl (op_notc rfl rfl ?_); intro c28 h28
        try replace h28 := nott h28 h27
        refine AOps.st 29 rfl rfl rfl (op_pick rfl rfl rfl ?_)
        refine AOps.nil ?_
        refine BoolQ.mk rfl ?_ (by repeat' (first | exact SLe.refl _ | refine SLe.fresh rfl ?_)) (by first | exact MLe.none _ | exact MLe.refl _ | (repeat' (first | exact MLe.nil | exact MLe.refl _ | refine MLe.cons _ ?_ | refine MLe.drop _ ?_)))
        simp_all
    intro c29 h29
    refine go_code ?_
    rcases bool_split h29 with ⟨rfl, g29⟩ | ⟨rfl, g29⟩
    · refine c_cond_f rfl ?_
      refine c_skip ?_
      refine go_blk ?_
      refine go_code ?_
      refine c_region ?_
      refine AOps.st 12 rfl rfl rfl (op_move rfl rfl ?_)
      first | (refine AOps.st 13 rfl rfl rfl (op_add rfl rfl rfl (IntWalk.i64_in _ (by omega)) ?_)) | (refine AOps.st 13 rfl rfl rfl (op_add rfl rfl rfl rfl ?_))
      refine AOps.st 5 rfl rfl rfl (op_assign rfl rfl ?_)
      refine AOps.nil ?_
      refine go_lp ?_
      first | exact ⟨(i + 1, u37), by simp; omega, by simp; omega, (by repeat' (first | exact SLe.nil _ | refine SLe.cons rfl ?_ ?_ | exact Le.refl _ | exact Le.own _ _ _ | exact Le.nil _ | (refine Le.own_eq ?_; (rw [hts, addMeta_yes g29]; exact nums_snoc _ _)) | (refine Le.own_seq ?_; (rw [hts, addMeta_yes g29]; exact nums_snoc _ _)) | (refine Le.seq_eq ?_; (rw [hts, addMeta_yes g29]; exact nums_snoc _ _)))), (by first | exact MLe.none _ | exact MLe.refl _ | (repeat' (first | exact MLe.nil | exact MLe.refl _ | refine MLe.cons _ ?_ | refine MLe.drop _ ?_)))⟩ | exact ⟨(i + 1, u), by simp; omega, by simp; omega, (by repeat' (first | exact SLe.nil _ | refine SLe.cons rfl ?_ ?_ | exact Le.refl _ | exact Le.own _ _ _ | exact Le.nil _ | (refine Le.own_eq ?_; (rw [hts, addMeta_no g29])) | (refine Le.own_seq ?_; (rw [hts, addMeta_no g29])) | (refine Le.seq_eq ?_; (rw [hts, addMeta_no g29])))), (by first | exact MLe.none _ | exact MLe.refl _ | (repeat' (first | exact MLe.nil | exact MLe.refl _ | refine MLe.cons _ ?_ | refine MLe.drop _ ?_)))⟩
    · refine c_cond_t rfl ?_
      refine c_region ?_
      refine AOps.st 30 rfl rfl rfl (op_move rfl rfl ?_)
      refine AOps.st 31 rfl rfl rfl (op_move rfl rfl ?_)
      refine AOps.st 32 rfl rfl rfl (op_move rfl rfl ?_)
      first | (refine AOps.st 33 rfl rfl rfl (op_index rfl te_22 rfl (.seq _ _) rfl rfl (by assumption) ?_)) | (refine AOps.st 33 rfl rfl rfl (op_index (i := 0) rfl te_22 rfl (.seq _ _) rfl rfl (by first | rfl | assumption) ?_)) | (refine AOps.st 33 rfl rfl rfl (op_index (i := 1) rfl te_22 rfl (.seq _ _) rfl rfl (by first | rfl | assumption) ?_)) | (refine AOps.st 33 rfl rfl rfl (op_index rfl te_22 rfl (.own _ _ _) rfl rfl (by assumption) ?_)) | (refine AOps.st 33 rfl rfl rfl (op_index (i := 0) rfl te_22 rfl (.own _ _ _) rfl rfl (by first | rfl | assumption) ?_)) | (refine AOps.st 33 rfl rfl rfl (op_index (i := 1) rfl te_22 rfl (.own _ _ _) rfl rfl (by first | rfl | assumption) ?_)) | (refine AOps.st 33 rfl rfl rfl (op_index_arr rfl te_22 rfl rfl rfl (by omega) ?_))
      first | (refine AOps.st 34 rfl rfl rfl (op_fieldAddr_m rfl tf_24_2 rfl ?_)) | (refine AOps.st 34 rfl rfl rfl (op_fieldAddr_c rfl tf_24_2 rfl rfl ?_))
      first | (refine AOps.st 35 rfl rfl rfl (op_load_m1 (i := 0) rfl ta_3 rfl rfl rfl ?_)) | (refine AOps.st 35 rfl rfl rfl (op_load_m1 (i := 1) rfl ta_3 rfl rfl rfl ?_)) | (refine AOps.st 35 rfl rfl rfl (op_load_m1 (i := 2) rfl ta_3 rfl rfl rfl ?_)) | (refine AOps.st 35 rfl rfl rfl (op_load_m1 (i := 3) rfl ta_3 rfl rfl rfl ?_)) | (refine AOps.st 35 rfl rfl rfl (op_load_m1 (i := 4) rfl ta_3 rfl rfl rfl ?_)) | (refine AOps.st 35 rfl rfl rfl (op_load_m1 (i := 5) rfl ta_3 rfl rfl rfl ?_)) | (refine AOps.st 35 rfl rfl rfl (op_load_c1 rfl ta_3 rfl rfl ?_))
      refine AOps.st 36 rfl rfl rfl (op_buildSlice (xs := [.tmp 35]) el_47 rfl rfl rfl rfl rfl rfl (Nat.le_of_ble_eq_true rfl) ?_)
      first | (refine AOps.st 37 rfl rfl rfl (op_append (i := 0) el_47 rfl rfl rfl rfl (.seq _ _) (by simp [nums_len] at hfl ⊢; omega) ?_)) | (refine AOps.st 37 rfl rfl rfl (op_append (i := 1) el_47 rfl rfl rfl rfl (.seq _ _) (by simp [nums_len] at hfl ⊢; omega) ?_)) | (refine AOps.st 37 rfl rfl rfl (op_append (i := 2) el_47 rfl rfl rfl rfl (.seq _ _) (by simp [nums_len] at hfl ⊢; omega) ?_)) | (refine AOps.st 37 rfl rfl rfl (op_append (i := 3) el_47 rfl rfl rfl rfl (.seq _ _) (by simp [nums_len] at hfl ⊢; omega) ?_)) | (refine AOps.st 37 rfl rfl rfl (op_append (i := 0) el_47 rfl rfl rfl rfl (.own _ _ _) (by simp [nums_len] at hfl ⊢; omega) ?_)) | (refine AOps.st 37 rfl rfl rfl (op_append (i := 1) el_47 rfl rfl rfl rfl (.own _ _ _) (by simp [nums_len] at hfl ⊢; omega) ?_)) | (refine AOps.st 37 rfl rfl rfl (op_append (i := 2) el_47 rfl rfl rfl rfl (.own _ _ _) (by simp [nums_len] at hfl ⊢; omega) ?_)) | (refine AOps.st 37 rfl rfl rfl (op_append (i := 3) el_47 rfl rfl rfl rfl (.own _ _ _) (by simp [nums_len] at hfl ⊢; omega) ?_)) | (refine AOps.st 37 rfl rfl rfl (op_append (i := 0) el_47 rfl rfl rfl rfl (.nil _) (by simp [nums_len] at hfl ⊢; omega) ?_)) | (refine AOps.st 37 rfl rfl rfl (op_append (i := 1) el_47 rfl rfl rfl rfl (.nil _) (by simp [nums_len] at hfl ⊢; omega) ?_)) | (refine AOps.st 37 rfl rfl rfl (op_append (i := 2) el_47 rfl rfl rfl rfl (.nil _) (by simp [nums_len] at hfl ⊢; omega) ?_)) | (refine AOps.st 37 rfl rfl rfl (op_append (i := 3) el_47 rfl rfl rfl rfl (.nil _) (by simp [nums_len] at hfl ⊢; omega) ?_)) | (refine AOps.st 37 rfl rfl rfl (op_append_nil el_47 rfl rfl rfl (.seq _ _) (by simp [nums_len] at hfl ⊢; omega) ?_)) | (refine AOps.st 37 rfl rfl rfl (op_append_nil el_47 rfl rfl rfl (.own _ _ _) (by simp [nums_len] at hfl ⊢; omega) ?_)) | (refine AOps.st 37 rfl rfl rfl (op_append_nil el_47 rfl rfl rfl (.nil _) (by simp [nums_len] at hfl ⊢; omega) ?_))
      intro u37
      refine AOps.st 4 rfl rfl rfl (op_assign rfl rfl ?_)
      refine AOps.nil ?_
      refine go_blk ?_
      refine go_code ?_
      refine c_region ?_
      refine AOps.st 12 rfl rfl rfl (op_move rfl rfl ?_)
      first | (refine AOps.st 13 rfl rfl rfl (op_add rfl rfl rfl (IntWalk.i64_in _ (by omega)) ?_)) | (refine AOps.st 13 rfl rfl rfl (op_add rfl rfl rfl rfl ?_))
      refine AOps.st 5 rfl rfl rfl (op_assign rfl rfl ?_)
      refine AOps.nil ?_
      refine go_lp ?_
      first | exact ⟨(i + 1, u37), by simp; omega, by simp; omega, (by repeat' (first | exact SLe.nil _ | refine SLe.cons rfl ?_ ?_ | exact Le.refl _ | exact Le.own _ _ _ | exact Le.nil _ | (refine Le.own_eq ?_; (rw [hts, addMeta_yes g29]; exact nums_snoc _ _)) | (refine Le.own_seq ?_; (rw [hts, addMeta_yes g29]; exact nums_snoc _ _)) | (refine Le.seq_eq ?_; (rw [hts, addMeta_yes g29]; exact nums_snoc _ _)))), (by first | exact MLe.none _ | exact MLe.refl _ | (repeat' (first | exact MLe.nil | exact MLe.refl _ | refine MLe.cons _ ?_ | refine MLe.drop _ ?_)))⟩ | exact ⟨(i + 1, u), by simp; omega, by simp; omega, (by repeat' (first | exact SLe.nil _ | refine SLe.cons rfl ?_ ?_ | exact Le.refl _ | exact Le.own _ _ _ | exact Le.nil _ | (refine Le.own_eq ?_; (rw [hts, addMeta_no g29])) | (refine Le.own_seq ?_; (rw [hts, addMeta_no g29])) | (refine Le.seq_eq ?_; (rw [hts, addMeta_no g29])))), (by first | exact MLe.none _ | exact MLe.refl _ | (repeat' (first | exact MLe.nil | exact MLe.refl _ | refine MLe.cons _ ?_ | refine MLe.drop _ ?_)))⟩
set_option maxRecDepth 100000 in
theorem Args_c (t : Ty) (hmx : t.size ≤ 1000000) : PCall Try.prog 24 [.agg t.cells] (.tup [.seq 4 (Ty.cellss t.args), .agg t.ans.cells]) := by
  have has := Ty.args_size t
  obtain ⟨k, s, n, ks⟩ := t
  refine ACall.enter Try.func24 rfl (by kernel_rfl) rfl (Nat.le_of_ble_eq_true rfl) ?_
  refine c_start ?_
  refine c_seq ?_
  refine c_region ?_
  refine AOps.st 1 rfl rfl rfl (op_box rfl rfl rfl ?_); intro b1
  refine AOps.st 2 rfl rfl rfl (op_assign rfl rfl ?_)
  refine AOps.st 3 rfl rfl rfl (op_alloc rfl tz_24 rfl ?_); intro b3
  refine AOps.nil ?_
  refine go_code ?_
  refine c_seq ?_
  refine c_region ?_
  refine AOps.st 4 rfl rfl rfl (op_assign rfl rfl ?_)
  refine AOps.nil ?_
  refine go_code ?_
  refine c_seq ?_
  refine c_block ?_
  refine ACode.ownNil (t := 4) 24 4 rfl ?_
  refine c_loop (σ := Ty × List Ty × Value) (fun zz => match zz with | (c, dn, u) => [(1, .ptr b1 0), (3, .ptr b3 0), (4, .own u 4 (Ty.cellss dn))]) (fun zz => match zz with | (c, dn, u) => [.own 24 4 u, .loc b3 [.val (.int .i64 0), .val (.string ⟨#[]⟩), .val (.int .i64 0), .val (.slice none 0 0)], .loc b1 c.cells]) (fun zz => match zz with | (c, dn, u) => dn ++ c.args = Ty.args (.mk k s n ks) ∧ c.ans = Ty.ans (.mk k s n ks)) (fun zz => match zz with | (c, dn, u) => c.size) ((.mk k s n ks, [], .slice none 0 0)) ?_ ?_ ?_ ?_
  · exact ⟨rfl, rfl⟩
  · exact (by repeat' (first | exact SLe.nil _ | refine SLe.cons rfl ?_ ?_ | exact Le.refl _ | exact Le.own _ _ _ | exact Le.nil _))
  · exact (by first | exact MLe.none _ | exact MLe.refl _ | (repeat' (first | exact MLe.nil | exact MLe.refl _ | refine MLe.cons _ ?_ | refine MLe.drop _ ?_)))
  rintro ⟨⟨ck, cs, cn, cks⟩, dn, u⟩ hI
  obtain ⟨ha, hb⟩ := hI
  refine c_seq ?_
  refine c_seq ?_
  refine c_region ?_
  first | (refine AOps.st 5 rfl rfl rfl (op_load_m (i := 0) rfl ta_24 rfl rfl rfl rfl ?_)) | (refine AOps.st 5 rfl rfl rfl (op_load_m (i := 1) rfl ta_24 rfl rfl rfl rfl ?_)) | (refine AOps.st 5 rfl rfl rfl (op_load_m (i := 2) rfl ta_24 rfl rfl rfl rfl ?_)) | (refine AOps.st 5 rfl rfl rfl (op_load_m (i := 3) rfl ta_24 rfl rfl rfl rfl ?_)) | (refine AOps.st 5 rfl rfl rfl (op_load_m (i := 4) rfl ta_24 rfl rfl rfl rfl ?_)) | (refine AOps.st 5 rfl rfl rfl (op_load_m (i := 5) rfl ta_24 rfl rfl rfl rfl ?_)) | (refine AOps.st 5 rfl rfl rfl (op_load_c rfl ta_24 rfl rfl rfl ?_))
  refine AOps.st 6 rfl rfl rfl (op_callb (xs := [.tmp 5]) rfl rfl (fun_c (.mk ck cs cn cks)) (by first | exact Les.refl _ | (repeat' (first | exact Les.refl _ | refine Les.cons ?_ ?_ | exact Le.refl _ | exact Le.own _ _ _ | exact Le.nil _ | refine Le.agg ?_))) ?_); intro c6 h6
  refine AOps.nil ?_
  refine go_code ?_
  rcases bool_split h6 with ⟨rfl, g6⟩ | ⟨rfl, g6⟩
  · refine c_cond_f rfl ?_
    refine c_exit ?_
    refine x_code ?_
    refine x_lp ?_
    refine x_here ?_
    refine go_code ?_
    refine c_seq ?_
    rw [Ty.args_not g6] at ha
    rw [Ty.ans_not g6] at hb
    refine c_drawnE [0, 1, 2, 3] [3] [[], [], [0], [0, 1, 2]] tmix rfl ?_
    refine EOps.d 18 (none) (i := 0) rfl rfl rfl rfl rfl (op_move rfl rfl ⟨rfl, rfl⟩) ?_
    first | (refine EOps.d 19 (some 0) (i := 1) rfl rfl rfl rfl rfl (op_load_m (i := 0) rfl ta_24 rfl rfl rfl rfl ⟨rfl, rfl⟩) ?_) | (refine EOps.d 19 (some 1) (i := 1) rfl rfl rfl rfl rfl (op_load_m (i := 0) rfl ta_24 rfl rfl rfl rfl ⟨rfl, rfl⟩) ?_) | (refine EOps.d 19 (some 2) (i := 1) rfl rfl rfl rfl rfl (op_load_m (i := 0) rfl ta_24 rfl rfl rfl rfl ⟨rfl, rfl⟩) ?_) | (refine EOps.d 19 (some 3) (i := 1) rfl rfl rfl rfl rfl (op_load_m (i := 0) rfl ta_24 rfl rfl rfl rfl ⟨rfl, rfl⟩) ?_) | (refine EOps.d 19 (some 4) (i := 1) rfl rfl rfl rfl rfl (op_load_m (i := 0) rfl ta_24 rfl rfl rfl rfl ⟨rfl, rfl⟩) ?_) | (refine EOps.d 19 (some 5) (i := 1) rfl rfl rfl rfl rfl (op_load_m (i := 0) rfl ta_24 rfl rfl rfl rfl ⟨rfl, rfl⟩) ?_) | (refine EOps.d 19 (none) (i := 1) rfl rfl rfl rfl rfl (op_load_c rfl ta_24 rfl rfl rfl ⟨rfl, rfl⟩) ?_)
    refine EOps.d 2 (none) (i := 2) rfl rfl rfl rfl rfl (op_assign rfl rfl ⟨rfl, rfl⟩) ?_
    first | (refine EOps.w 0 (i := 3) rfl rfl rfl rfl rfl (op_store (i := 0) rfl ts_24 rfl rfl rfl rfl rfl (Nat.le_of_ble_eq_true rfl) rfl ⟨_, rfl, ?_⟩)) | (refine EOps.w 1 (i := 3) rfl rfl rfl rfl rfl (op_store (i := 0) rfl ts_24 rfl rfl rfl rfl rfl (Nat.le_of_ble_eq_true rfl) rfl ⟨_, rfl, ?_⟩)) | (refine EOps.w 2 (i := 3) rfl rfl rfl rfl rfl (op_store (i := 0) rfl ts_24 rfl rfl rfl rfl rfl (Nat.le_of_ble_eq_true rfl) rfl ⟨_, rfl, ?_⟩)) | (refine EOps.w 3 (i := 3) rfl rfl rfl rfl rfl (op_store (i := 0) rfl ts_24 rfl rfl rfl rfl rfl (Nat.le_of_ble_eq_true rfl) rfl ⟨_, rfl, ?_⟩)) | (refine EOps.w 4 (i := 3) rfl rfl rfl rfl rfl (op_store (i := 0) rfl ts_24 rfl rfl rfl rfl rfl (Nat.le_of_ble_eq_true rfl) rfl ⟨_, rfl, ?_⟩)) | (refine EOps.w 5 (i := 3) rfl rfl rfl rfl rfl (op_store (i := 0) rfl ts_24 rfl rfl rfl rfl rfl (Nat.le_of_ble_eq_true rfl) rfl ⟨_, rfl, ?_⟩))
    show AGo _ _ _ _ _ _
    refine go_code ?_
    refine c_ret ?_
    rw [← ha, ← hb]
    exact out_tc (i := 1) rfl rfl rfl rfl ta_24 rfl (by repeat' (first | exact Le.refl _ | exact Le.own _ _ _ | exact Le.nil _ | refine Le.agg ?_ | refine Le.tup ?_ | exact Les.refl _ | refine Les.cons ?_ ?_ | (refine Le.own_eq ?_; simp) | (refine Le.own_seq ?_; simp) | (refine Le.seq_eq ?_; simp))) (by first | exact MLe.none _ | exact MLe.refl _ | (repeat' (first | exact MLe.nil | exact MLe.refl _ | refine MLe.cons _ ?_ | refine MLe.drop _ ?_))) ⟨rfl, rfl⟩
  · refine c_cond_t rfl ?_
    refine c_skip ?_
    refine go_code ?_
    refine c_block ?_
    refine c_seq ?_
    obtain ⟨n', ⟨ka, sa, na, kas⟩, ⟨kb, sb, nb, kks⟩, e⟩ := Ty.fun_kids g6
    cases e
    rw [Ty.args_fun] at ha
    rw [Ty.ans_fun] at hb
    have hln := congrArg List.length ha
    simp only [List.length_append, List.length_cons] at hln
    refine c_region ?_
    refine AOps.st 7 rfl rfl rfl (op_move rfl rfl ?_)
    first | (refine AOps.st 8 rfl rfl rfl (op_fieldAddr_m rfl tf_24_3 rfl ?_)) | (refine AOps.st 8 rfl rfl rfl (op_fieldAddr_c rfl tf_24_3 rfl rfl ?_))
    first | (refine AOps.st 9 rfl rfl rfl (op_load_m1 (i := 0) rfl ta_22 rfl rfl rfl ?_)) | (refine AOps.st 9 rfl rfl rfl (op_load_m1 (i := 1) rfl ta_22 rfl rfl rfl ?_)) | (refine AOps.st 9 rfl rfl rfl (op_load_m1 (i := 2) rfl ta_22 rfl rfl rfl ?_)) | (refine AOps.st 9 rfl rfl rfl (op_load_m1 (i := 3) rfl ta_22 rfl rfl rfl ?_)) | (refine AOps.st 9 rfl rfl rfl (op_load_m1 (i := 4) rfl ta_22 rfl rfl rfl ?_)) | (refine AOps.st 9 rfl rfl rfl (op_load_m1 (i := 5) rfl ta_22 rfl rfl rfl ?_)) | (refine AOps.st 9 rfl rfl rfl (op_load_c1 rfl ta_22 rfl rfl ?_))
    first | (refine AOps.st 10 rfl rfl rfl (op_index rfl te_22 rfl (.seq _ _) rfl rfl (by assumption) ?_)) | (refine AOps.st 10 rfl rfl rfl (op_index (i := 0) rfl te_22 rfl (.seq _ _) rfl rfl (by first | rfl | assumption) ?_)) | (refine AOps.st 10 rfl rfl rfl (op_index (i := 1) rfl te_22 rfl (.seq _ _) rfl rfl (by first | rfl | assumption) ?_)) | (refine AOps.st 10 rfl rfl rfl (op_index rfl te_22 rfl (.own _ _ _) rfl rfl (by assumption) ?_)) | (refine AOps.st 10 rfl rfl rfl (op_index (i := 0) rfl te_22 rfl (.own _ _ _) rfl rfl (by first | rfl | assumption) ?_)) | (refine AOps.st 10 rfl rfl rfl (op_index (i := 1) rfl te_22 rfl (.own _ _ _) rfl rfl (by first | rfl | assumption) ?_)) | (refine AOps.st 10 rfl rfl rfl (op_index_arr rfl te_22 rfl rfl rfl (by omega) ?_))
    first | (refine AOps.st 11 rfl rfl rfl (op_load_m (i := 0) rfl ta_24 rfl rfl rfl rfl ?_)) | (refine AOps.st 11 rfl rfl rfl (op_load_m (i := 1) rfl ta_24 rfl rfl rfl rfl ?_)) | (refine AOps.st 11 rfl rfl rfl (op_load_m (i := 2) rfl ta_24 rfl rfl rfl rfl ?_)) | (refine AOps.st 11 rfl rfl rfl (op_load_m (i := 3) rfl ta_24 rfl rfl rfl rfl ?_)) | (refine AOps.st 11 rfl rfl rfl (op_load_m (i := 4) rfl ta_24 rfl rfl rfl rfl ?_)) | (refine AOps.st 11 rfl rfl rfl (op_load_m (i := 5) rfl ta_24 rfl rfl rfl rfl ?_)) | (refine AOps.st 11 rfl rfl rfl (op_load_c rfl ta_24 rfl rfl rfl ?_))
    refine AOps.st 12 rfl rfl rfl (op_buildSlice (xs := [.tmp 11]) el_22 rfl rfl rfl rfl rfl rfl (Nat.le_of_ble_eq_true rfl) ?_)
    first | (refine AOps.st 13 rfl rfl rfl (op_append (i := 0) el_22 rfl rfl rfl rfl (.seq _ _) (by simp [Ty.cellss_len]; omega) ?_)) | (refine AOps.st 13 rfl rfl rfl (op_append (i := 1) el_22 rfl rfl rfl rfl (.seq _ _) (by simp [Ty.cellss_len]; omega) ?_)) | (refine AOps.st 13 rfl rfl rfl (op_append (i := 2) el_22 rfl rfl rfl rfl (.seq _ _) (by simp [Ty.cellss_len]; omega) ?_)) | (refine AOps.st 13 rfl rfl rfl (op_append (i := 3) el_22 rfl rfl rfl rfl (.seq _ _) (by simp [Ty.cellss_len]; omega) ?_)) | (refine AOps.st 13 rfl rfl rfl (op_append (i := 0) el_22 rfl rfl rfl rfl (.own _ _ _) (by simp [Ty.cellss_len]; omega) ?_)) | (refine AOps.st 13 rfl rfl rfl (op_append (i := 1) el_22 rfl rfl rfl rfl (.own _ _ _) (by simp [Ty.cellss_len]; omega) ?_)) | (refine AOps.st 13 rfl rfl rfl (op_append (i := 2) el_22 rfl rfl rfl rfl (.own _ _ _) (by simp [Ty.cellss_len]; omega) ?_)) | (refine AOps.st 13 rfl rfl rfl (op_append (i := 3) el_22 rfl rfl rfl rfl (.own _ _ _) (by simp [Ty.cellss_len]; omega) ?_)) | (refine AOps.st 13 rfl rfl rfl (op_append (i := 0) el_22 rfl rfl rfl rfl (.nil _) (by simp [Ty.cellss_len]; omega) ?_)) | (refine AOps.st 13 rfl rfl rfl (op_append (i := 1) el_22 rfl rfl rfl rfl (.nil _) (by simp [Ty.cellss_len]; omega) ?_)) | (refine AOps.st 13 rfl rfl rfl (op_append (i := 2) el_22 rfl rfl rfl rfl (.nil _) (by simp [Ty.cellss_len]; omega) ?_)) | (refine AOps.st 13 rfl rfl rfl (op_append (i := 3) el_22 rfl rfl rfl rfl (.nil _) (by simp [Ty.cellss_len]; omega) ?_)) | (refine AOps.st 13 rfl rfl rfl (op_append_nil el_22 rfl rfl rfl (.seq _ _) (by simp [Ty.cellss_len]; omega) ?_)) | (refine AOps.st 13 rfl rfl rfl (op_append_nil el_22 rfl rfl rfl (.own _ _ _) (by simp [Ty.cellss_len]; omega) ?_)) | (refine AOps.st 13 rfl rfl rfl (op_append_nil el_22 rfl rfl rfl (.nil _) (by simp [Ty.cellss_len]; omega) ?_))
    intro u13
    refine AOps.st 4 rfl rfl rfl (op_assign rfl rfl ?_)
    refine AOps.nil ?_
    refine go_code ?_
    refine c_region ?_
    first | (refine AOps.st 14 rfl rfl rfl (op_fieldAddr_m rfl tf_24_3 rfl ?_)) | (refine AOps.st 14 rfl rfl rfl (op_fieldAddr_c rfl tf_24_3 rfl rfl ?_))
    first | (refine AOps.st 15 rfl rfl rfl (op_load_m1 (i := 0) rfl ta_22 rfl rfl rfl ?_)) | (refine AOps.st 15 rfl rfl rfl (op_load_m1 (i := 1) rfl ta_22 rfl rfl rfl ?_)) | (refine AOps.st 15 rfl rfl rfl (op_load_m1 (i := 2) rfl ta_22 rfl rfl rfl ?_)) | (refine AOps.st 15 rfl rfl rfl (op_load_m1 (i := 3) rfl ta_22 rfl rfl rfl ?_)) | (refine AOps.st 15 rfl rfl rfl (op_load_m1 (i := 4) rfl ta_22 rfl rfl rfl ?_)) | (refine AOps.st 15 rfl rfl rfl (op_load_m1 (i := 5) rfl ta_22 rfl rfl rfl ?_)) | (refine AOps.st 15 rfl rfl rfl (op_load_c1 rfl ta_22 rfl rfl ?_))
    first | (refine AOps.st 16 rfl rfl rfl (op_index rfl te_22 rfl (.seq _ _) rfl rfl (by assumption) ?_)) | (refine AOps.st 16 rfl rfl rfl (op_index (i := 0) rfl te_22 rfl (.seq _ _) rfl rfl (by first | rfl | assumption) ?_)) | (refine AOps.st 16 rfl rfl rfl (op_index (i := 1) rfl te_22 rfl (.seq _ _) rfl rfl (by first | rfl | assumption) ?_)) | (refine AOps.st 16 rfl rfl rfl (op_index rfl te_22 rfl (.own _ _ _) rfl rfl (by assumption) ?_)) | (refine AOps.st 16 rfl rfl rfl (op_index (i := 0) rfl te_22 rfl (.own _ _ _) rfl rfl (by first | rfl | assumption) ?_)) | (refine AOps.st 16 rfl rfl rfl (op_index (i := 1) rfl te_22 rfl (.own _ _ _) rfl rfl (by first | rfl | assumption) ?_)) | (refine AOps.st 16 rfl rfl rfl (op_index_arr rfl te_22 rfl rfl rfl (by omega) ?_))
    first | (refine AOps.st 17 rfl rfl rfl (op_load_m (i := 0) rfl ta_24 rfl rfl rfl rfl ?_)) | (refine AOps.st 17 rfl rfl rfl (op_load_m (i := 1) rfl ta_24 rfl rfl rfl rfl ?_)) | (refine AOps.st 17 rfl rfl rfl (op_load_m (i := 2) rfl ta_24 rfl rfl rfl rfl ?_)) | (refine AOps.st 17 rfl rfl rfl (op_load_m (i := 3) rfl ta_24 rfl rfl rfl rfl ?_)) | (refine AOps.st 17 rfl rfl rfl (op_load_m (i := 4) rfl ta_24 rfl rfl rfl rfl ?_)) | (refine AOps.st 17 rfl rfl rfl (op_load_m (i := 5) rfl ta_24 rfl rfl rfl rfl ?_)) | (refine AOps.st 17 rfl rfl rfl (op_load_c rfl ta_24 rfl rfl rfl ?_))
    first | (refine AOps.st0 rfl rfl (op_store (i := 0) rfl ts_24 rfl rfl rfl rfl rfl (Nat.le_of_ble_eq_true rfl) rfl ?_)) | (refine AOps.st0 rfl rfl (op_store (i := 1) rfl ts_24 rfl rfl rfl rfl rfl (Nat.le_of_ble_eq_true rfl) rfl ?_)) | (refine AOps.st0 rfl rfl (op_store (i := 2) rfl ts_24 rfl rfl rfl rfl rfl (Nat.le_of_ble_eq_true rfl) rfl ?_)) | (refine AOps.st0 rfl rfl (op_store (i := 3) rfl ts_24 rfl rfl rfl rfl rfl (Nat.le_of_ble_eq_true rfl) rfl ?_)) | (refine AOps.st0 rfl rfl (op_store (i := 4) rfl ts_24 rfl rfl rfl rfl rfl (Nat.le_of_ble_eq_true rfl) rfl ?_)) | (refine AOps.st0 rfl rfl (op_store (i := 5) rfl ts_24 rfl rfl rfl rfl rfl (Nat.le_of_ble_eq_true rfl) rfl ?_))
    refine AOps.nil ?_
    refine go_blk ?_
    refine go_lp ?_
    exact ⟨(.mk kb sb nb kks, dn ++ [.mk ka sa na kas], u13), ⟨by rw [← ha]; simp, hb⟩, by simp [Ty.size, Ty.sizes]; omega, (by repeat' (first | exact SLe.nil _ | refine SLe.cons rfl ?_ ?_ | exact Le.refl _ | exact Le.own _ _ _ | exact Le.nil _ | (refine Le.own_eq ?_; (rw [Ty.cellss_app]; rfl)) | (refine Le.own_seq ?_; (rw [Ty.cellss_app]; rfl)) | (refine Le.seq_eq ?_; (rw [Ty.cellss_app]; rfl)))), (by first | exact MLe.none _ | exact MLe.refl _ | (repeat' (first | exact MLe.nil | exact MLe.refl _ | refine MLe.cons _ ?_ | refine MLe.drop _ ?_)))⟩
set_option maxRecDepth 100000 in
theorem smalls_c (l : List Ty) (most : Int) (h1 : 0 ≤ most) (h2 : most ≤ 100000) : BCall Try.prog 20 [.seq 4 (Ty.cellss l), .val (.int .i64 most)] ((∀ t ∈ l, t.small most = true) ∧ l.length ≤ 30) := by
  have hl := Ty.cellss_len l
  refine ACall.enter Try.func20 rfl (by kernel_rfl) rfl (Nat.le_of_ble_eq_true rfl) ?_
  refine c_start ?_
  refine c_lens (t := 0) rfl (.seq _ _) (fun hmax => ?_)
  refine c_seq ?_
  refine c_region ?_
  refine AOps.st 4 rfl rfl rfl (op_assign rfl rfl ?_)
  refine AOps.nil ?_
  refine go_code ?_
  refine c_seq ?_
  refine c_seq ?_
  refine c_region ?_
  refine AOps.st 7 rfl rfl rfl (op_move rfl rfl ?_)
  first | (refine AOps.st 8 rfl rfl rfl (op_len rfl tu_22 rfl (.seq _ _) (fun n8 => ?_))) | (refine AOps.st 8 rfl rfl rfl (op_len rfl tu_22 rfl (.own _ _ _) (fun n8 => ?_))) | (refine AOps.st 8 rfl rfl rfl (op_len rfl tu_22 rfl (.nil 0) (fun n8 => ?_))) | (refine AOps.st 8 rfl rfl rfl (op_len_arr rfl tu_22 rfl ?_))
  refine AOps.st 9 rfl rfl rfl (op_move rfl rfl ?_)
  refine AOps.nil ?_
  refine go_code ?_
  refine c_block ?_
  refine c_loop (σ := Nat) (fun zz => match zz with | i => [(0, .seq 4 (Ty.cellss l)), (1, .val (.int .i64 most)), (7, .seq 4 (Ty.cellss l)), (8, .val (.int .i64 (Ty.cellss l).length)), (9, .val (.int .i64 i))]) (fun zz => match zz with | i => []) (fun zz => match zz with | i => i ≤ l.length ∧ ∀ t ∈ l.take i, t.small most = true) (fun zz => match zz with | i => l.length - i) (0) ?_ ?_ ?_ ?_
  · exact ⟨by omega, by simp⟩
  · exact (by repeat' (first | exact SLe.nil _ | refine SLe.cons rfl ?_ ?_ | exact Le.refl _ | exact Le.own _ _ _ | exact Le.nil _))
  · exact (by first | exact MLe.none _ | exact MLe.refl _ | (repeat' (first | exact MLe.nil | exact MLe.refl _ | refine MLe.cons _ ?_ | refine MLe.drop _ ?_)))
  rintro i hI
  obtain ⟨hi, hu⟩ := hI
  refine c_seq ?_
  refine c_region ?_
  refine AOps.st 10 rfl rfl rfl (op_lss rfl rfl rfl ?_); intro c10 h10
  refine AOps.nil ?_
  refine go_code ?_
  refine c_seq ?_
  rcases bool_split h10 with ⟨rfl, g10⟩ | ⟨rfl, g10⟩
  · refine c_cond_f rfl ?_
    refine c_exit ?_
    refine x_code ?_
    refine x_lp ?_
    refine x_here ?_
    refine go_code ?_
    refine c_seq ?_
    refine c_region ?_
    refine AOps.st 18 rfl rfl rfl (op_move rfl rfl ?_)
    first | (refine AOps.st 19 rfl rfl rfl (op_len rfl tu_22 rfl (.seq _ _) (fun n19 => ?_))) | (refine AOps.st 19 rfl rfl rfl (op_len rfl tu_22 rfl (.own _ _ _) (fun n19 => ?_))) | (refine AOps.st 19 rfl rfl rfl (op_len rfl tu_22 rfl (.nil 0) (fun n19 => ?_))) | (refine AOps.st 19 rfl rfl rfl (op_len_arr rfl tu_22 rfl ?_))
    refine AOps.st 20 rfl rfl rfl (op_leq rfl rfl rfl ?_); intro c20 h20
    refine AOps.st 4 rfl rfl rfl (op_assign rfl rfl ?_)
    refine AOps.nil ?_
    refine go_code ?_
    refine c_ret ?_
    rw [List.take_of_length_le (by omega)] at hu
    exact out_tmp rfl rfl (Le.refl _) (by first | exact MLe.none _ | exact MLe.refl _ | (repeat' (first | exact MLe.nil | exact MLe.refl _ | refine MLe.cons _ ?_ | refine MLe.drop _ ?_))) ⟨⟨_, h20.trans ⟨fun q => ⟨hu, by omega⟩, fun q => by have := q.2; omega⟩, rfl⟩, rfl⟩
  · refine c_cond_t rfl ?_
    refine c_skip ?_
    refine go_code ?_
    refine c_seq ?_
    refine c_block ?_
    refine c_seq ?_
    obtain ⟨⟨k', s', n', ks'⟩, hx⟩ := get_some (l := l) (i := i) (by omega)
    have hcx := Ty.cellss_get hx
    refine c_region ?_
    first | (refine AOps.st 11 rfl rfl rfl (op_index rfl te_22 rfl (.seq _ _) rfl rfl (by assumption) ?_)) | (refine AOps.st 11 rfl rfl rfl (op_index (i := 0) rfl te_22 rfl (.seq _ _) rfl rfl (by first | rfl | assumption) ?_)) | (refine AOps.st 11 rfl rfl rfl (op_index (i := 1) rfl te_22 rfl (.seq _ _) rfl rfl (by first | rfl | assumption) ?_)) | (refine AOps.st 11 rfl rfl rfl (op_index rfl te_22 rfl (.own _ _ _) rfl rfl (by assumption) ?_)) | (refine AOps.st 11 rfl rfl rfl (op_index (i := 0) rfl te_22 rfl (.own _ _ _) rfl rfl (by first | rfl | assumption) ?_)) | (refine AOps.st 11 rfl rfl rfl (op_index (i := 1) rfl te_22 rfl (.own _ _ _) rfl rfl (by first | rfl | assumption) ?_)) | (refine AOps.st 11 rfl rfl rfl (op_index_arr rfl te_22 rfl rfl rfl (by omega) ?_))
    first | (refine AOps.st 12 rfl rfl rfl (op_load_m (i := 0) rfl ta_24 rfl rfl rfl rfl ?_)) | (refine AOps.st 12 rfl rfl rfl (op_load_m (i := 1) rfl ta_24 rfl rfl rfl rfl ?_)) | (refine AOps.st 12 rfl rfl rfl (op_load_m (i := 2) rfl ta_24 rfl rfl rfl rfl ?_)) | (refine AOps.st 12 rfl rfl rfl (op_load_m (i := 3) rfl ta_24 rfl rfl rfl rfl ?_)) | (refine AOps.st 12 rfl rfl rfl (op_load_m (i := 4) rfl ta_24 rfl rfl rfl rfl ?_)) | (refine AOps.st 12 rfl rfl rfl (op_load_m (i := 5) rfl ta_24 rfl rfl rfl rfl ?_)) | (refine AOps.st 12 rfl rfl rfl (op_load_c rfl ta_24 rfl rfl rfl ?_))
    refine AOps.st 6 rfl rfl rfl (op_alloc rfl tz_24 rfl ?_); intro b6
    first | (refine AOps.st0 rfl rfl (op_store (i := 0) rfl ts_24 rfl rfl rfl rfl rfl (Nat.le_of_ble_eq_true rfl) rfl ?_)) | (refine AOps.st0 rfl rfl (op_store (i := 1) rfl ts_24 rfl rfl rfl rfl rfl (Nat.le_of_ble_eq_true rfl) rfl ?_)) | (refine AOps.st0 rfl rfl (op_store (i := 2) rfl ts_24 rfl rfl rfl rfl rfl (Nat.le_of_ble_eq_true rfl) rfl ?_)) | (refine AOps.st0 rfl rfl (op_store (i := 3) rfl ts_24 rfl rfl rfl rfl rfl (Nat.le_of_ble_eq_true rfl) rfl ?_)) | (refine AOps.st0 rfl rfl (op_store (i := 4) rfl ts_24 rfl rfl rfl rfl rfl (Nat.le_of_ble_eq_true rfl) rfl ?_)) | (refine AOps.st0 rfl rfl (op_store (i := 5) rfl ts_24 rfl rfl rfl rfl rfl (Nat.le_of_ble_eq_true rfl) rfl ?_))
    refine AOps.nil ?_
    refine go_code ?_
    refine c_seq ?_
    refine c_region ?_
    first | (refine AOps.st 13 rfl rfl rfl (op_load_m (i := 0) rfl ta_24 rfl rfl rfl rfl ?_)) | (refine AOps.st 13 rfl rfl rfl (op_load_m (i := 1) rfl ta_24 rfl rfl rfl rfl ?_)) | (refine AOps.st 13 rfl rfl rfl (op_load_m (i := 2) rfl ta_24 rfl rfl rfl rfl ?_)) | (refine AOps.st 13 rfl rfl rfl (op_load_m (i := 3) rfl ta_24 rfl rfl rfl rfl ?_)) | (refine AOps.st 13 rfl rfl rfl (op_load_m (i := 4) rfl ta_24 rfl rfl rfl rfl ?_)) | (refine AOps.st 13 rfl rfl rfl (op_load_m (i := 5) rfl ta_24 rfl rfl rfl rfl ?_)) | (refine AOps.st 13 rfl rfl rfl (op_load_c rfl ta_24 rfl rfl rfl ?_))
    refine AOps.st 14 rfl rfl rfl (op_move rfl rfl ?_)
    refine AOps.st 15 rfl rfl rfl (op_callb (xs := [.tmp 13, .tmp 14]) rfl rfl (Small_c (.mk k' s' n' ks') most h1 h2) (by first | exact Les.refl _ | (repeat' (first | exact Les.refl _ | refine Les.cons ?_ ?_ | exact Le.refl _ | exact Le.own _ _ _ | exact Le.nil _ | refine Le.agg ?_))) ?_); intro c15 h15
    refine AOps.st 16 rfl rfl rfl (op_notc rfl rfl ?_); intro c16 h16
    try replace h16 := nott h16 h15
    refine AOps.nil ?_
    refine go_code ?_
    rcases bool_split h16 with ⟨rfl, g16⟩ | ⟨rfl, g16⟩
    · refine c_cond_f rfl ?_
      refine c_skip ?_
      refine go_blk ?_
      refine go_code ?_
      refine c_region ?_
      first | (refine AOps.st 17 rfl rfl rfl (op_add rfl rfl rfl (IntWalk.i64_in _ (by omega)) ?_)) | (refine AOps.st 17 rfl rfl rfl (op_add rfl rfl rfl rfl ?_))
      refine AOps.st 9 rfl rfl rfl (op_move rfl rfl ?_)
      refine AOps.nil ?_
      refine go_lp ?_
      refine ⟨i + 1, ⟨by omega, ?_⟩, by simp; omega, (by repeat' (first | exact SLe.nil _ | refine SLe.cons rfl ?_ ?_ | exact Le.refl _ | exact Le.own _ _ _ | exact Le.nil _)), (by first | exact MLe.none _ | exact MLe.refl _ | (repeat' (first | exact MLe.nil | exact MLe.refl _ | refine MLe.cons _ ?_ | refine MLe.drop _ ?_)))⟩
      rw [take_snoc hx]
      intro t ht
      rcases List.mem_append.1 ht with q | q
      · exact hu t q
      · simp at q; subst q; exact Classical.not_not.1 g16
    · refine c_cond_t rfl ?_
      refine c_seq ?_
      refine c_region ?_
      refine AOps.st 4 rfl rfl rfl (op_assign rfl rfl ?_)
      refine AOps.nil ?_
      refine go_code ?_
      refine c_ret ?_
      exact out_tmp rfl rfl (Le.refl _) (by first | exact MLe.none _ | exact MLe.refl _ | (repeat' (first | exact MLe.nil | exact MLe.refl _ | refine MLe.cons _ ?_ | refine MLe.drop _ ?_))) ⟨⟨_, iff_f (fun q => g16 (q.1 _ (List.mem_of_getElem? hx))), rfl⟩, rfl⟩
end Go.Proofs.Ytjgjnheeohfmmaa
