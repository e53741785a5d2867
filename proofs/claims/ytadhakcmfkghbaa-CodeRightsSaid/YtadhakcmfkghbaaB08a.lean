/- small functions of layers 5 and 8: Has, HasInt, Index, Contains, IsFun, fun, Fun, Con, Clone, kids -/
import Derived.Test.YtadhakcmfkghbaaTF
import Derived.Test.YtadhakcmfkghbaaPU
import Derived.Test.YtadhakcmfkghbaaB05s
namespace Go.Proofs.Ytadhakcmfkghbaa
open Go.RowKit
set_option maxHeartbeats 4000000 in
set_option maxRecDepth 100000 in
theorem IndexS_c (xs : List ByteArray) (x : ByteArray) : PCall Try.prog 75 [.seq 1 (strs xs), .val (.string x)] (.val (.int .i64 (firstAt x xs 0))) := by
  have hlx := strs_len xs
  refine ACall.enter Try.func75 rfl (by kernel_rfl) rfl (Nat.le_of_ble_eq_true rfl) ?_
  refine c_start ?_
  refine c_lens (t := 0) rfl (.seq _ _) (fun hmax => ?_)
  refine c_seq ?_
  refine c_region ?_
  refine AOps.st 4 rfl rfl rfl (op_assign rfl rfl ?_)
  refine AOps.nil ?_
  refine go_code ?_
  refine c_seq ?_
  refine c_seq ?_
  refine c_region ?_
  refine AOps.st 6 rfl rfl rfl (op_move rfl rfl ?_)
  first | (refine AOps.st 7 rfl rfl rfl (op_len rfl tu_24 rfl (.seq _ _) (fun n7 => ?_))) | (refine AOps.st 7 rfl rfl rfl (op_len rfl tu_24 rfl (.own _ _ _) (fun n7 => ?_))) | (refine AOps.st 7 rfl rfl rfl (op_len rfl tu_24 rfl (.nil 0) (fun n7 => ?_))) | (refine AOps.st 7 rfl rfl rfl (op_len_arr rfl tu_24 rfl ?_))
  refine AOps.st 8 rfl rfl rfl (op_move rfl rfl ?_)
  refine AOps.nil ?_
  refine go_code ?_
  refine c_block ?_
  refine c_loop (σ := Nat) (fun zz => match zz with | i => [(0, .seq 1 (strs xs)), (1, .val (.string x)), (7, .val (.int .i64 (strs xs).length)), (8, .val (.int .i64 i))]) (fun zz => match zz with | i => []) (fun zz => match zz with | i => i ≤ xs.length ∧ x ∉ xs.take i) (fun zz => match zz with | i => xs.length - i) (0) ?_ ?_ ?_ ?_
  · exact ⟨by omega, by simp⟩
  · exact (by repeat' (first | exact SLe.nil _ | refine SLe.cons rfl ?_ ?_ | exact Le.refl _ | exact Le.own _ _ _ | exact Le.nil _))
  · exact (by first | exact MLe.none _ | exact MLe.refl _ | (repeat' (first | exact MLe.nil | exact MLe.refl _ | refine MLe.cons _ ?_ | refine MLe.drop _ ?_)))
  rintro i hI
  try dsimp only [List.cons_append, List.nil_append] at hI ⊢
  obtain ⟨hi, hu⟩ := hI
  refine c_seq ?_
  refine c_region ?_
  refine AOps.st 9 rfl rfl rfl (op_lss rfl rfl rfl ?_); intro c9 h9
  refine AOps.nil ?_
  refine go_code ?_
  refine c_seq ?_
  rcases bool_split h9 with ⟨rfl, g9⟩ | ⟨rfl, g9⟩
  · refine c_cond_f rfl ?_
    refine c_exit ?_
    refine x_code ?_
    refine x_lp ?_
    refine x_here ?_
    refine go_code ?_
    refine c_seq ?_
    refine c_region ?_
    refine AOps.st 4 rfl rfl rfl (op_assign rfl rfl ?_)
    refine AOps.nil ?_
    refine go_code ?_
    refine c_ret ?_
    refine out_tmp rfl rfl (Le.refl _) (by first | exact MLe.none _ | exact MLe.refl _ | (repeat' (first | exact MLe.nil | exact MLe.refl _ | refine MLe.cons _ ?_ | refine MLe.drop _ ?_))) ⟨?_, rfl⟩
    rw [← firstAt_drop x xs i hu, List.drop_eq_nil_of_le (by omega), firstAt]
  · refine c_cond_t rfl ?_
    refine c_skip ?_
    refine go_code ?_
    refine c_seq ?_
    refine c_block ?_
    refine c_seq ?_
    refine c_region ?_
    refine AOps.st 10 rfl rfl rfl (op_move rfl rfl ?_)
    refine AOps.st 5 rfl rfl rfl (op_assign rfl rfl ?_)
    refine AOps.nil ?_
    refine go_code ?_
    refine c_seq ?_
    obtain ⟨y, hy⟩ := get_some (l := xs) (i := i) (by omega)
    have hcy := strs_get hy
    refine c_region ?_
    refine AOps.st 11 rfl rfl rfl (op_move rfl rfl ?_)
    refine AOps.st 12 rfl rfl rfl (op_move rfl rfl ?_)
    refine AOps.st 13 rfl rfl rfl (op_move rfl rfl ?_)
    first | (refine AOps.st 14 rfl rfl rfl (op_index rfl te_24 rfl (.seq _ _) rfl rfl (by assumption) ?_)) | (refine AOps.st 14 rfl rfl rfl (op_index (i := 0) rfl te_24 rfl (.seq _ _) rfl rfl (by first | rfl | assumption) ?_)) | (refine AOps.st 14 rfl rfl rfl (op_index (i := 1) rfl te_24 rfl (.seq _ _) rfl rfl (by first | rfl | assumption) ?_)) | (refine AOps.st 14 rfl rfl rfl (op_index rfl te_24 rfl (.own _ _ _) rfl rfl (by assumption) ?_)) | (refine AOps.st 14 rfl rfl rfl (op_index (i := 0) rfl te_24 rfl (.own _ _ _) rfl rfl (by first | rfl | assumption) ?_)) | (refine AOps.st 14 rfl rfl rfl (op_index (i := 1) rfl te_24 rfl (.own _ _ _) rfl rfl (by first | rfl | assumption) ?_)) | (refine AOps.st 14 rfl rfl rfl (op_index_arr rfl te_24 rfl rfl rfl (by omega) ?_))
    first | (refine AOps.st 15 rfl rfl rfl (op_load_m1 (i := 0) rfl ta_9 rfl rfl rfl ?_)) | (refine AOps.st 15 rfl rfl rfl (op_load_m1 (i := 1) rfl ta_9 rfl rfl rfl ?_)) | (refine AOps.st 15 rfl rfl rfl (op_load_m1 (i := 2) rfl ta_9 rfl rfl rfl ?_)) | (refine AOps.st 15 rfl rfl rfl (op_load_m1 (i := 3) rfl ta_9 rfl rfl rfl ?_)) | (refine AOps.st 15 rfl rfl rfl (op_load_m1 (i := 4) rfl ta_9 rfl rfl rfl ?_)) | (refine AOps.st 15 rfl rfl rfl (op_load_m1 (i := 5) rfl ta_9 rfl rfl rfl ?_)) | (refine AOps.st 15 rfl rfl rfl (op_load_m1 (i := 6) rfl ta_9 rfl rfl rfl ?_)) | (refine AOps.st 15 rfl rfl rfl (op_load_m1 (i := 7) rfl ta_9 rfl rfl rfl ?_)) | (refine AOps.st 15 rfl rfl rfl (op_load_m1 (i := 8) rfl ta_9 rfl rfl rfl ?_)) | (refine AOps.st 15 rfl rfl rfl (op_load_m1 (i := 9) rfl ta_9 rfl rfl rfl ?_)) | (refine AOps.st 15 rfl rfl rfl (op_load_c1 rfl ta_9 rfl rfl ?_))
    refine AOps.st 16 rfl rfl rfl (op_seql rfl rfl rfl ?_); intro c16 h16
    refine AOps.nil ?_
    refine go_code ?_
    rcases bool_split h16 with ⟨rfl, g16⟩ | ⟨rfl, g16⟩
    · refine c_cond_f rfl ?_
      refine c_skip ?_
      refine go_blk ?_
      refine go_code ?_
      refine c_region ?_
      first | (refine AOps.st 18 rfl rfl rfl (op_add rfl rfl rfl (IntWalk.i64_in _ (by omega)) ?_)) | (refine AOps.st 18 rfl rfl rfl (op_add rfl rfl rfl rfl ?_))
      refine AOps.st 8 rfl rfl rfl (op_move rfl rfl ?_)
      refine AOps.nil ?_
      refine go_lp ?_
      exact ⟨i + 1, ⟨by omega, not_mem_take hu hy (fun e => g16 e.symm)⟩, by simp; omega, (by repeat' (first | exact SLe.nil _ | refine SLe.cons rfl ?_ ?_ | exact Le.refl _ | exact Le.own _ _ _ | exact Le.nil _)), (by first | exact MLe.none _ | exact MLe.refl _ | (repeat' (first | exact MLe.nil | exact MLe.refl _ | refine MLe.cons _ ?_ | refine MLe.drop _ ?_)))⟩
    · refine c_cond_t rfl ?_
      refine c_seq ?_
      refine c_region ?_
      refine AOps.st 17 rfl rfl rfl (op_move rfl rfl ?_)
      refine AOps.st 4 rfl rfl rfl (op_assign rfl rfl ?_)
      refine AOps.nil ?_
      refine go_code ?_
      refine c_ret ?_
      refine out_tmp rfl rfl (Le.refl _) (by first | exact MLe.none _ | exact MLe.refl _ | (repeat' (first | exact MLe.nil | exact MLe.refl _ | refine MLe.cons _ ?_ | refine MLe.drop _ ?_))) ⟨?_, rfl⟩
      rw [← firstAt_drop x xs i hu, drop_at hy, firstAt, if_pos g16]
set_option maxHeartbeats 4000000 in
set_option maxRecDepth 100000 in
theorem ContainsS_c (xs : List ByteArray) (x : ByteArray) : BCall Try.prog 65 [.seq 1 (strs xs), .val (.string x)] (x ∈ xs) := by
  refine ACall.enter Try.func65 rfl (by kernel_rfl) rfl (Nat.le_of_ble_eq_true rfl) ?_
  refine c_start ?_
  refine c_seq ?_
  refine c_region ?_
  refine AOps.st 4 rfl rfl rfl (op_assign rfl rfl ?_)
  refine AOps.nil ?_
  refine go_code ?_
  refine c_seq ?_
  refine c_region ?_
  refine AOps.st 5 rfl rfl rfl (op_move rfl rfl ?_)
  refine AOps.st 6 rfl rfl rfl (op_move rfl rfl ?_)
  refine AOps.st 7 rfl rfl rfl (op_callp (xs := [.tmp 5, .tmp 6]) rfl rfl (IndexS_c xs x) (by first | exact Les.refl _ | (repeat' (first | exact Les.refl _ | refine Les.cons ?_ ?_ | exact Le.refl _ | exact Le.own _ _ _ | exact Le.nil _ | refine Le.agg ?_))) ?_)
  refine AOps.st 8 rfl rfl rfl (op_geq rfl rfl rfl ?_); intro c8 h8
  refine AOps.st 4 rfl rfl rfl (op_assign rfl rfl ?_)
  refine AOps.nil ?_
  refine go_code ?_
  refine c_ret ?_
  exact out_tmp rfl rfl (Le.refl _) (by first | exact MLe.none _ | exact MLe.refl _ | (repeat' (first | exact MLe.nil | exact MLe.refl _ | refine MLe.cons _ ?_ | refine MLe.drop _ ?_))) ⟨⟨_, h8.trans (firstAt_nonneg x xs 0), rfl⟩, rfl⟩
set_option maxHeartbeats 4000000 in
set_option maxRecDepth 100000 in
theorem fun_c (t : Ty) : BCall Try.prog 62 [.agg t.cells] t.isFun := by
  obtain ⟨k, s, n, ks⟩ := t
  have hl := Ty.cellss_len ks
  refine ACall.enter Try.func62 rfl (by kernel_rfl) rfl (Nat.le_of_ble_eq_true rfl) ?_
  refine c_start ?_
  refine c_seq ?_
  refine c_region ?_
  refine AOps.st 1 rfl rfl rfl (op_boxe (cs' := [_, _, _, _]) rfl rfl rfl rfl ?_); intro b1
  refine AOps.st 2 rfl rfl rfl (op_assign rfl rfl ?_)
  refine AOps.nil ?_
  refine go_code ?_
  refine c_seq ?_
  refine c_bool 2 (k = 3 ∧ s = arrow ∧ ks.length = 2) ?_ _ _ rfl ?_
  · skip
    first | (refine AOps.st 3 rfl rfl rfl (op_fieldAddr_m rfl tf_77_0 rfl ?_)) | (refine AOps.st 3 rfl rfl rfl (op_fieldAddr_c rfl tf_77_0 rfl rfl ?_))
    first | (refine AOps.st 4 rfl rfl rfl (op_load_m1 (i := 0) rfl ta_3 rfl rfl rfl ?_)) | (refine AOps.st 4 rfl rfl rfl (op_load_m1 (i := 1) rfl ta_3 rfl rfl rfl ?_)) | (refine AOps.st 4 rfl rfl rfl (op_load_m1 (i := 2) rfl ta_3 rfl rfl rfl ?_)) | (refine AOps.st 4 rfl rfl rfl (op_load_m1 (i := 3) rfl ta_3 rfl rfl rfl ?_)) | (refine AOps.st 4 rfl rfl rfl (op_load_m1 (i := 4) rfl ta_3 rfl rfl rfl ?_)) | (refine AOps.st 4 rfl rfl rfl (op_load_m1 (i := 5) rfl ta_3 rfl rfl rfl ?_)) | (refine AOps.st 4 rfl rfl rfl (op_load_m1 (i := 6) rfl ta_3 rfl rfl rfl ?_)) | (refine AOps.st 4 rfl rfl rfl (op_load_m1 (i := 7) rfl ta_3 rfl rfl rfl ?_)) | (refine AOps.st 4 rfl rfl rfl (op_load_m1 (i := 8) rfl ta_3 rfl rfl rfl ?_)) | (refine AOps.st 4 rfl rfl rfl (op_load_m1 (i := 9) rfl ta_3 rfl rfl rfl ?_)) | (refine AOps.st 4 rfl rfl rfl (op_load_c1 rfl ta_3 rfl rfl ?_))
    refine AOps.st 5 rfl rfl rfl (op_eql rfl rfl rfl ?_); intro c5 h5
    refine AOps.st 6 rfl rfl rfl (op_move rfl rfl ?_)
    rcases bool_split h5 with ⟨rfl, g5⟩ | ⟨rfl, g5⟩
    · skip
      refine AOps.gf 7 rfl rfl rfl rfl rfl ?_
      refine AOps.gf 8 rfl rfl rfl rfl rfl ?_
      refine AOps.gf 9 rfl rfl rfl rfl rfl ?_
      refine AOps.st 10 rfl rfl rfl (op_pick rfl rfl rfl ?_)
      refine AOps.st 11 rfl rfl rfl (op_move rfl rfl ?_)
      refine AOps.gf 12 rfl rfl rfl rfl rfl ?_
      refine AOps.gf 13 rfl rfl rfl rfl rfl ?_
      refine AOps.gf 14 rfl rfl rfl rfl rfl ?_
      refine AOps.gf 15 rfl rfl rfl rfl rfl ?_
      refine AOps.st 16 rfl rfl rfl (op_pick rfl rfl rfl ?_)
      refine AOps.st 2 rfl rfl rfl (op_assign rfl rfl ?_)
      refine AOps.nil ?_
      refine BoolQ.mk rfl ?_ (by repeat' (first | exact SLe.wo _ _ | exact SLe.refl _ | refine SLe.fresh rfl ?_)) (by first | exact MLe.none _ | exact MLe.refl _ | (repeat' (first | exact MLe.nil | exact MLe.refl _ | refine MLe.cons _ ?_ | refine MLe.drop _ ?_)))
      first | (simp_all; omega) | simp_all
    · skip
      first | (refine AOps.gt 7 rfl rfl rfl rfl rfl (op_fieldAddr_m rfl tf_77_1 rfl ?_)) | (refine AOps.gt 7 rfl rfl rfl rfl rfl (op_fieldAddr_c rfl tf_77_1 rfl rfl ?_))
      first | (refine AOps.gt 8 rfl rfl rfl rfl rfl (op_load_m1 (i := 0) rfl ta_9 rfl rfl rfl ?_)) | (refine AOps.gt 8 rfl rfl rfl rfl rfl (op_load_m1 (i := 1) rfl ta_9 rfl rfl rfl ?_)) | (refine AOps.gt 8 rfl rfl rfl rfl rfl (op_load_m1 (i := 2) rfl ta_9 rfl rfl rfl ?_)) | (refine AOps.gt 8 rfl rfl rfl rfl rfl (op_load_m1 (i := 3) rfl ta_9 rfl rfl rfl ?_)) | (refine AOps.gt 8 rfl rfl rfl rfl rfl (op_load_m1 (i := 4) rfl ta_9 rfl rfl rfl ?_)) | (refine AOps.gt 8 rfl rfl rfl rfl rfl (op_load_m1 (i := 5) rfl ta_9 rfl rfl rfl ?_)) | (refine AOps.gt 8 rfl rfl rfl rfl rfl (op_load_m1 (i := 6) rfl ta_9 rfl rfl rfl ?_)) | (refine AOps.gt 8 rfl rfl rfl rfl rfl (op_load_m1 (i := 7) rfl ta_9 rfl rfl rfl ?_)) | (refine AOps.gt 8 rfl rfl rfl rfl rfl (op_load_m1 (i := 8) rfl ta_9 rfl rfl rfl ?_)) | (refine AOps.gt 8 rfl rfl rfl rfl rfl (op_load_m1 (i := 9) rfl ta_9 rfl rfl rfl ?_)) | (refine AOps.gt 8 rfl rfl rfl rfl rfl (op_load_c1 rfl ta_9 rfl rfl ?_))
      refine AOps.gt 9 rfl rfl rfl rfl rfl (op_seql rfl rfl rfl ?_); intro c9 h9
      refine AOps.st 10 rfl rfl rfl (op_pick rfl rfl rfl ?_)
      refine AOps.st 11 rfl rfl rfl (op_move rfl rfl ?_)
      rcases bool_split h9 with ⟨rfl, g9⟩ | ⟨rfl, g9⟩
      · skip
        refine AOps.gf 12 rfl rfl rfl rfl rfl ?_
        refine AOps.gf 13 rfl rfl rfl rfl rfl ?_
        refine AOps.gf 14 rfl rfl rfl rfl rfl ?_
        refine AOps.gf 15 rfl rfl rfl rfl rfl ?_
        refine AOps.st 16 rfl rfl rfl (op_pick rfl rfl rfl ?_)
        refine AOps.st 2 rfl rfl rfl (op_assign rfl rfl ?_)
        refine AOps.nil ?_
        refine BoolQ.mk rfl ?_ (by repeat' (first | exact SLe.wo _ _ | exact SLe.refl _ | refine SLe.fresh rfl ?_)) (by first | exact MLe.none _ | exact MLe.refl _ | (repeat' (first | exact MLe.nil | exact MLe.refl _ | refine MLe.cons _ ?_ | refine MLe.drop _ ?_)))
        first | (simp_all; omega) | simp_all
      · skip
        first | (refine AOps.gt 12 rfl rfl rfl rfl rfl (op_fieldAddr_m rfl tf_77_3 rfl ?_)) | (refine AOps.gt 12 rfl rfl rfl rfl rfl (op_fieldAddr_c rfl tf_77_3 rfl rfl ?_))
        first | (refine AOps.gt 13 rfl rfl rfl rfl rfl (op_load_m1 (i := 0) rfl ta_75 rfl rfl rfl ?_)) | (refine AOps.gt 13 rfl rfl rfl rfl rfl (op_load_m1 (i := 1) rfl ta_75 rfl rfl rfl ?_)) | (refine AOps.gt 13 rfl rfl rfl rfl rfl (op_load_m1 (i := 2) rfl ta_75 rfl rfl rfl ?_)) | (refine AOps.gt 13 rfl rfl rfl rfl rfl (op_load_m1 (i := 3) rfl ta_75 rfl rfl rfl ?_)) | (refine AOps.gt 13 rfl rfl rfl rfl rfl (op_load_m1 (i := 4) rfl ta_75 rfl rfl rfl ?_)) | (refine AOps.gt 13 rfl rfl rfl rfl rfl (op_load_m1 (i := 5) rfl ta_75 rfl rfl rfl ?_)) | (refine AOps.gt 13 rfl rfl rfl rfl rfl (op_load_m1 (i := 6) rfl ta_75 rfl rfl rfl ?_)) | (refine AOps.gt 13 rfl rfl rfl rfl rfl (op_load_m1 (i := 7) rfl ta_75 rfl rfl rfl ?_)) | (refine AOps.gt 13 rfl rfl rfl rfl rfl (op_load_m1 (i := 8) rfl ta_75 rfl rfl rfl ?_)) | (refine AOps.gt 13 rfl rfl rfl rfl rfl (op_load_m1 (i := 9) rfl ta_75 rfl rfl rfl ?_)) | (refine AOps.gt 13 rfl rfl rfl rfl rfl (op_load_c1 rfl ta_75 rfl rfl ?_))
        first | (refine AOps.gt 14 rfl rfl rfl rfl rfl (op_len rfl tu_75 rfl (.seq _ _) (fun n14 => ?_))) | (refine AOps.gt 14 rfl rfl rfl rfl rfl (op_len rfl tu_75 rfl (.own _ _ _) (fun n14 => ?_))) | (refine AOps.gt 14 rfl rfl rfl rfl rfl (op_len rfl tu_75 rfl (.nil 0) (fun n14 => ?_))) | (refine AOps.gt 14 rfl rfl rfl rfl rfl (op_len_arr rfl tu_75 rfl ?_))
        refine AOps.gt 15 rfl rfl rfl rfl rfl (op_eql rfl rfl rfl ?_); intro c15 h15
        refine AOps.st 16 rfl rfl rfl (op_pick rfl rfl rfl ?_)
        refine AOps.st 2 rfl rfl rfl (op_assign rfl rfl ?_)
        refine AOps.nil ?_
        refine BoolQ.mk rfl ?_ (by repeat' (first | exact SLe.wo _ _ | exact SLe.refl _ | refine SLe.fresh rfl ?_)) (by first | exact MLe.none _ | exact MLe.refl _ | (repeat' (first | exact MLe.nil | exact MLe.refl _ | refine MLe.cons _ ?_ | refine MLe.drop _ ?_)))
        first | (simp_all; omega) | simp_all
  intro c2 h2
  refine go_code ?_
  refine c_ret ?_
  exact out_tmp rfl rfl (Le.refl _) (by first | exact MLe.none _ | exact MLe.refl _ | (repeat' (first | exact MLe.nil | exact MLe.refl _ | refine MLe.cons _ ?_ | refine MLe.drop _ ?_))) ⟨⟨_, h2, rfl⟩, rfl⟩
set_option maxHeartbeats 4000000 in
set_option maxRecDepth 100000 in
theorem CloneT_c (ks : List Ty) (hb : ks.length ≤ 100000000) : PCall Try.prog 74 [.seq 4 (Ty.cellss ks)] (.seq 4 (Ty.cellss ks)) := by
  have hl := Ty.cellss_len ks
  refine ACall.enter Try.func74 rfl (by kernel_rfl) rfl (Nat.le_of_ble_eq_true rfl) ?_
  refine c_start ?_
  refine c_seq ?_
  refine c_region ?_
  refine AOps.st 2 rfl rfl rfl (op_assign rfl rfl ?_)
  refine AOps.nil ?_
  refine go_code ?_
  refine c_seq ?_
  refine c_seq ?_
  refine c_region ?_
  refine AOps.st 3 rfl rfl rfl (op_move rfl rfl ?_)
  first | (refine AOps.st 4 rfl rfl rfl (op_isnil rfl tu_75 rfl (.seq _ _) ?_)) | (refine AOps.st 4 rfl rfl rfl (op_isnil rfl tu_75 rfl (.own _ _ _) ?_)) | (refine AOps.st 4 rfl rfl rfl (op_isnil rfl tu_75 rfl (.nil 0) ?_))
  intro c4 h4
  refine AOps.nil ?_
  refine go_code ?_
  rcases c4 with _ | _
  · refine c_cond_f rfl ?_
    refine c_skip ?_
    refine go_code ?_
    refine c_seq ?_
    refine c_region ?_
    refine AOps.st 5 rfl rfl rfl (op_buildSlice_own (xs := []) el_75 rfl rfl rfl rfl rfl rfl (Nat.le_of_ble_eq_true rfl) ?_); intro u5
    refine AOps.st 6 rfl rfl rfl (op_move rfl rfl ?_)
    first | (refine AOps.st 7 rfl rfl rfl (op_append (i := 0) el_75 rfl rfl rfl rfl (.seq _ _) (by first | (simp; done) | (simp; omega) | omega) ?_)) | (refine AOps.st 7 rfl rfl rfl (op_append (i := 1) el_75 rfl rfl rfl rfl (.seq _ _) (by first | (simp; done) | (simp; omega) | omega) ?_)) | (refine AOps.st 7 rfl rfl rfl (op_append (i := 2) el_75 rfl rfl rfl rfl (.seq _ _) (by first | (simp; done) | (simp; omega) | omega) ?_)) | (refine AOps.st 7 rfl rfl rfl (op_append (i := 3) el_75 rfl rfl rfl rfl (.seq _ _) (by first | (simp; done) | (simp; omega) | omega) ?_)) | (refine AOps.st 7 rfl rfl rfl (op_append (i := 4) el_75 rfl rfl rfl rfl (.seq _ _) (by first | (simp; done) | (simp; omega) | omega) ?_)) | (refine AOps.st 7 rfl rfl rfl (op_append (i := 5) el_75 rfl rfl rfl rfl (.seq _ _) (by first | (simp; done) | (simp; omega) | omega) ?_)) | (refine AOps.st 7 rfl rfl rfl (op_append (i := 0) el_75 rfl rfl rfl rfl (.own _ _ _) (by first | (simp; done) | (simp; omega) | omega) ?_)) | (refine AOps.st 7 rfl rfl rfl (op_append (i := 1) el_75 rfl rfl rfl rfl (.own _ _ _) (by first | (simp; done) | (simp; omega) | omega) ?_)) | (refine AOps.st 7 rfl rfl rfl (op_append (i := 2) el_75 rfl rfl rfl rfl (.own _ _ _) (by first | (simp; done) | (simp; omega) | omega) ?_)) | (refine AOps.st 7 rfl rfl rfl (op_append (i := 3) el_75 rfl rfl rfl rfl (.own _ _ _) (by first | (simp; done) | (simp; omega) | omega) ?_)) | (refine AOps.st 7 rfl rfl rfl (op_append (i := 4) el_75 rfl rfl rfl rfl (.own _ _ _) (by first | (simp; done) | (simp; omega) | omega) ?_)) | (refine AOps.st 7 rfl rfl rfl (op_append (i := 5) el_75 rfl rfl rfl rfl (.own _ _ _) (by first | (simp; done) | (simp; omega) | omega) ?_)) | (refine AOps.st 7 rfl rfl rfl (op_append (i := 0) el_75 rfl rfl rfl rfl (.nil _) (by first | (simp; done) | (simp; omega) | omega) ?_)) | (refine AOps.st 7 rfl rfl rfl (op_append (i := 1) el_75 rfl rfl rfl rfl (.nil _) (by first | (simp; done) | (simp; omega) | omega) ?_)) | (refine AOps.st 7 rfl rfl rfl (op_append (i := 2) el_75 rfl rfl rfl rfl (.nil _) (by first | (simp; done) | (simp; omega) | omega) ?_)) | (refine AOps.st 7 rfl rfl rfl (op_append (i := 3) el_75 rfl rfl rfl rfl (.nil _) (by first | (simp; done) | (simp; omega) | omega) ?_)) | (refine AOps.st 7 rfl rfl rfl (op_append (i := 4) el_75 rfl rfl rfl rfl (.nil _) (by first | (simp; done) | (simp; omega) | omega) ?_)) | (refine AOps.st 7 rfl rfl rfl (op_append (i := 5) el_75 rfl rfl rfl rfl (.nil _) (by first | (simp; done) | (simp; omega) | omega) ?_)) | (refine AOps.st 7 rfl rfl rfl (op_append_nil el_75 rfl rfl rfl (.seq _ _) (by first | (simp; done) | (simp; omega) | omega) ?_)) | (refine AOps.st 7 rfl rfl rfl (op_append_nil el_75 rfl rfl rfl (.own _ _ _) (by first | (simp; done) | (simp; omega) | omega) ?_)) | (refine AOps.st 7 rfl rfl rfl (op_append_nil el_75 rfl rfl rfl (.nil _) (by first | (simp; done) | (simp; omega) | omega) ?_))
    intro u7
    refine AOps.st 2 rfl rfl rfl (op_assign rfl rfl ?_)
    refine AOps.nil ?_
    refine go_code ?_
    refine c_ret ?_
    exact out_tmp rfl rfl (Le.own _ _ _) (by first | exact MLe.none _ | exact MLe.refl _ | (repeat' (first | exact MLe.nil | exact MLe.refl _ | refine MLe.cons _ ?_ | refine MLe.drop _ ?_))) ⟨rfl, rfl⟩
  · refine c_cond_t rfl ?_
    refine c_seq ?_
    refine c_region ?_
    refine AOps.st 2 rfl rfl rfl (op_assign rfl rfl ?_)
    refine AOps.nil ?_
    refine go_code ?_
    refine c_ret ?_
    exact out_tmp rfl rfl (by rw [h4 rfl]; exact Le.nil 4) (by first | exact MLe.none _ | exact MLe.refl _ | (repeat' (first | exact MLe.nil | exact MLe.refl _ | refine MLe.cons _ ?_ | refine MLe.drop _ ?_))) ⟨rfl, rfl⟩
set_option maxHeartbeats 4000000 in
set_option maxRecDepth 100000 in
theorem Con_c (s : ByteArray) (ks : List Ty) (hb : ks.length ≤ 100000000) : PCall Try.prog 59 [.val (.string s), .seq 4 (Ty.cellss ks)] (.agg (Ty.mk 3 s 0 ks).cells) := by
  refine ACall.enter Try.func59 rfl (by kernel_rfl) rfl (Nat.le_of_ble_eq_true rfl) ?_
  refine c_start ?_
  refine c_seq ?_
  refine c_region ?_
  refine AOps.st 4 rfl rfl rfl (op_alloce (cs' := [_, _, _, _]) rfl tz_77 rfl rfl ?_); intro b4
  refine AOps.nil ?_
  refine go_code ?_
  refine c_seq ?_
  refine c_region ?_
  refine AOps.st 5 rfl rfl rfl (op_move rfl rfl ?_)
  refine AOps.st 6 rfl rfl rfl (op_move rfl rfl ?_)
  refine AOps.st 7 rfl rfl rfl (op_callp (xs := [.tmp 6]) rfl rfl (CloneT_c ks hb) (by first | exact Les.refl _ | (repeat' (first | exact Les.refl _ | refine Les.cons ?_ ?_ | exact Le.refl _ | exact Le.own _ _ _ | exact Le.nil _ | refine Le.agg ?_))) ?_)
  refine AOps.st 8 rfl rfl rfl (op_build (ns := [0, 1, 3]) (xs := [.const (.int .i64 3), .tmp 5, .tmp 7]) rfl tz_77 rfl tfl_77 rfl rfl rfl rfl ?_)
  first | (refine AOps.st0 rfl rfl (op_store (cs' := [_, _, _, _]) (i := 0) rfl ts_77 rfl rfl rfl rfl rfl (Nat.le_of_ble_eq_true rfl) rfl ?_)) | (refine AOps.st0 rfl rfl (op_store (cs' := [_, _, _, _]) (i := 1) rfl ts_77 rfl rfl rfl rfl rfl (Nat.le_of_ble_eq_true rfl) rfl ?_)) | (refine AOps.st0 rfl rfl (op_store (cs' := [_, _, _, _]) (i := 2) rfl ts_77 rfl rfl rfl rfl rfl (Nat.le_of_ble_eq_true rfl) rfl ?_)) | (refine AOps.st0 rfl rfl (op_store (cs' := [_, _, _, _]) (i := 3) rfl ts_77 rfl rfl rfl rfl rfl (Nat.le_of_ble_eq_true rfl) rfl ?_)) | (refine AOps.st0 rfl rfl (op_store (cs' := [_, _, _, _]) (i := 4) rfl ts_77 rfl rfl rfl rfl rfl (Nat.le_of_ble_eq_true rfl) rfl ?_)) | (refine AOps.st0 rfl rfl (op_store (cs' := [_, _, _, _]) (i := 5) rfl ts_77 rfl rfl rfl rfl rfl (Nat.le_of_ble_eq_true rfl) rfl ?_)) | (refine AOps.st0 rfl rfl (op_store (cs' := [_, _, _, _]) (i := 6) rfl ts_77 rfl rfl rfl rfl rfl (Nat.le_of_ble_eq_true rfl) rfl ?_)) | (refine AOps.st0 rfl rfl (op_store (cs' := [_, _, _, _]) (i := 7) rfl ts_77 rfl rfl rfl rfl rfl (Nat.le_of_ble_eq_true rfl) rfl ?_)) | (refine AOps.st0 rfl rfl (op_store (cs' := [_, _, _, _]) (i := 8) rfl ts_77 rfl rfl rfl rfl rfl (Nat.le_of_ble_eq_true rfl) rfl ?_)) | (refine AOps.st0 rfl rfl (op_store (cs' := [_, _, _, _]) (i := 9) rfl ts_77 rfl rfl rfl rfl rfl (Nat.le_of_ble_eq_true rfl) rfl ?_))
  refine AOps.nil ?_
  refine go_code ?_
  refine c_ret ?_
  exact out_cell (i := 0) rfl rfl rfl ta_77 rfl (by repeat' (first | exact Le.refl _ | exact Le.own _ _ _ | exact Le.nil _ | refine Le.agg ?_ | refine Le.tup ?_ | exact Les.refl _ | refine Les.cons ?_ ?_)) (by first | exact MLe.none _ | exact MLe.refl _ | (repeat' (first | exact MLe.nil | exact MLe.refl _ | refine MLe.cons _ ?_ | refine MLe.drop _ ?_))) ⟨rfl, rfl⟩
set_option maxHeartbeats 4000000 in
set_option maxRecDepth 100000 in
theorem Fun_c (a b : Ty) : PCall Try.prog 61 [.agg a.cells, .agg b.cells] (.agg (Ty.mk 3 arrow 0 [a, b]).cells) := by
  obtain ⟨k1, s1, n1, ks1⟩ := a
  obtain ⟨k2, s2, n2, ks2⟩ := b
  refine ACall.enter Try.func61 rfl (by kernel_rfl) rfl (Nat.le_of_ble_eq_true rfl) ?_
  refine c_start ?_
  refine c_seq ?_
  refine c_region ?_
  refine AOps.st 2 rfl rfl rfl (op_boxe (cs' := [_, _, _, _]) rfl rfl rfl rfl ?_); intro b2
  refine AOps.st 3 rfl rfl rfl (op_boxe (cs' := [_, _, _, _]) rfl rfl rfl rfl ?_); intro b3
  refine AOps.st 4 rfl rfl rfl (op_alloce (cs' := [_, _, _, _]) rfl tz_77 rfl rfl ?_); intro b4
  refine AOps.nil ?_
  refine go_code ?_
  refine c_seq ?_
  refine c_region ?_
  first | (refine AOps.st 5 rfl rfl rfl (op_load_m (cs' := [_, _, _, _]) (i := 0) rfl ta_77 rfl rfl rfl rfl ?_)) | (refine AOps.st 5 rfl rfl rfl (op_load_m (cs' := [_, _, _, _]) (i := 1) rfl ta_77 rfl rfl rfl rfl ?_)) | (refine AOps.st 5 rfl rfl rfl (op_load_m (cs' := [_, _, _, _]) (i := 2) rfl ta_77 rfl rfl rfl rfl ?_)) | (refine AOps.st 5 rfl rfl rfl (op_load_m (cs' := [_, _, _, _]) (i := 3) rfl ta_77 rfl rfl rfl rfl ?_)) | (refine AOps.st 5 rfl rfl rfl (op_load_m (cs' := [_, _, _, _]) (i := 4) rfl ta_77 rfl rfl rfl rfl ?_)) | (refine AOps.st 5 rfl rfl rfl (op_load_m (cs' := [_, _, _, _]) (i := 5) rfl ta_77 rfl rfl rfl rfl ?_)) | (refine AOps.st 5 rfl rfl rfl (op_load_m (cs' := [_, _, _, _]) (i := 6) rfl ta_77 rfl rfl rfl rfl ?_)) | (refine AOps.st 5 rfl rfl rfl (op_load_m (cs' := [_, _, _, _]) (i := 7) rfl ta_77 rfl rfl rfl rfl ?_)) | (refine AOps.st 5 rfl rfl rfl (op_load_m (cs' := [_, _, _, _]) (i := 8) rfl ta_77 rfl rfl rfl rfl ?_)) | (refine AOps.st 5 rfl rfl rfl (op_load_m (cs' := [_, _, _, _]) (i := 9) rfl ta_77 rfl rfl rfl rfl ?_)) | (refine AOps.st 5 rfl rfl rfl (op_load_c (cs' := [_, _, _, _]) rfl ta_77 rfl rfl rfl ?_))
  first | (refine AOps.st 6 rfl rfl rfl (op_load_m (cs' := [_, _, _, _]) (i := 0) rfl ta_77 rfl rfl rfl rfl ?_)) | (refine AOps.st 6 rfl rfl rfl (op_load_m (cs' := [_, _, _, _]) (i := 1) rfl ta_77 rfl rfl rfl rfl ?_)) | (refine AOps.st 6 rfl rfl rfl (op_load_m (cs' := [_, _, _, _]) (i := 2) rfl ta_77 rfl rfl rfl rfl ?_)) | (refine AOps.st 6 rfl rfl rfl (op_load_m (cs' := [_, _, _, _]) (i := 3) rfl ta_77 rfl rfl rfl rfl ?_)) | (refine AOps.st 6 rfl rfl rfl (op_load_m (cs' := [_, _, _, _]) (i := 4) rfl ta_77 rfl rfl rfl rfl ?_)) | (refine AOps.st 6 rfl rfl rfl (op_load_m (cs' := [_, _, _, _]) (i := 5) rfl ta_77 rfl rfl rfl rfl ?_)) | (refine AOps.st 6 rfl rfl rfl (op_load_m (cs' := [_, _, _, _]) (i := 6) rfl ta_77 rfl rfl rfl rfl ?_)) | (refine AOps.st 6 rfl rfl rfl (op_load_m (cs' := [_, _, _, _]) (i := 7) rfl ta_77 rfl rfl rfl rfl ?_)) | (refine AOps.st 6 rfl rfl rfl (op_load_m (cs' := [_, _, _, _]) (i := 8) rfl ta_77 rfl rfl rfl rfl ?_)) | (refine AOps.st 6 rfl rfl rfl (op_load_m (cs' := [_, _, _, _]) (i := 9) rfl ta_77 rfl rfl rfl rfl ?_)) | (refine AOps.st 6 rfl rfl rfl (op_load_c (cs' := [_, _, _, _]) rfl ta_77 rfl rfl rfl ?_))
  refine AOps.st 7 rfl rfl rfl (op_buildSlice (xs := [.tmp 5, .tmp 6]) el_75 rfl rfl rfl rfl rfl rfl (Nat.le_of_ble_eq_true rfl) ?_)
  refine AOps.st 8 rfl rfl rfl (op_callp (xs := [.const (.string ⟨#[45, 62]⟩), .tmp 7]) rfl rfl (Con_c arrow [.mk k1 s1 n1 ks1, .mk k2 s2 n2 ks2] (by simp)) (by first | exact Les.refl _ | (repeat' (first | exact Les.refl _ | refine Les.cons ?_ ?_ | exact Le.refl _ | exact Le.own _ _ _ | exact Le.nil _ | refine Le.agg ?_))) ?_)
  first | (refine AOps.st0 rfl rfl (op_store (cs' := [_, _, _, _]) (i := 0) rfl ts_77 rfl rfl rfl rfl rfl (Nat.le_of_ble_eq_true rfl) rfl ?_)) | (refine AOps.st0 rfl rfl (op_store (cs' := [_, _, _, _]) (i := 1) rfl ts_77 rfl rfl rfl rfl rfl (Nat.le_of_ble_eq_true rfl) rfl ?_)) | (refine AOps.st0 rfl rfl (op_store (cs' := [_, _, _, _]) (i := 2) rfl ts_77 rfl rfl rfl rfl rfl (Nat.le_of_ble_eq_true rfl) rfl ?_)) | (refine AOps.st0 rfl rfl (op_store (cs' := [_, _, _, _]) (i := 3) rfl ts_77 rfl rfl rfl rfl rfl (Nat.le_of_ble_eq_true rfl) rfl ?_)) | (refine AOps.st0 rfl rfl (op_store (cs' := [_, _, _, _]) (i := 4) rfl ts_77 rfl rfl rfl rfl rfl (Nat.le_of_ble_eq_true rfl) rfl ?_)) | (refine AOps.st0 rfl rfl (op_store (cs' := [_, _, _, _]) (i := 5) rfl ts_77 rfl rfl rfl rfl rfl (Nat.le_of_ble_eq_true rfl) rfl ?_)) | (refine AOps.st0 rfl rfl (op_store (cs' := [_, _, _, _]) (i := 6) rfl ts_77 rfl rfl rfl rfl rfl (Nat.le_of_ble_eq_true rfl) rfl ?_)) | (refine AOps.st0 rfl rfl (op_store (cs' := [_, _, _, _]) (i := 7) rfl ts_77 rfl rfl rfl rfl rfl (Nat.le_of_ble_eq_true rfl) rfl ?_)) | (refine AOps.st0 rfl rfl (op_store (cs' := [_, _, _, _]) (i := 8) rfl ts_77 rfl rfl rfl rfl rfl (Nat.le_of_ble_eq_true rfl) rfl ?_)) | (refine AOps.st0 rfl rfl (op_store (cs' := [_, _, _, _]) (i := 9) rfl ts_77 rfl rfl rfl rfl rfl (Nat.le_of_ble_eq_true rfl) rfl ?_))
  refine AOps.nil ?_
  refine go_code ?_
  refine c_ret ?_
  exact out_cell (i := 0) rfl rfl rfl ta_77 rfl (by repeat' (first | exact Le.refl _ | exact Le.own _ _ _ | exact Le.nil _ | refine Le.agg ?_ | refine Le.tup ?_ | exact Les.refl _ | refine Les.cons ?_ ?_)) (by first | exact MLe.none _ | exact MLe.refl _ | (repeat' (first | exact MLe.nil | exact MLe.refl _ | refine MLe.cons _ ?_ | refine MLe.drop _ ?_))) ⟨rfl, rfl⟩
end Go.Proofs.Ytadhakcmfkghbaa
