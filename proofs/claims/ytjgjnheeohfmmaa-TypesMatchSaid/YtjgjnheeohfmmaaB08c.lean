/- cognatelaw08.count, Small -/
import Derived.Test.YtjgjnheeohfmmaaTF
import Derived.Test.YtjgjnheeohfmmaaPT
namespace Go.Proofs.Ytjgjnheeohfmmaa
open Go.RowKit
set_option maxRecDepth 100000 in
theorem count_c (d : Nat) : ∀ (t : Ty) (most : Int), t.size ≤ d → 1 ≤ most → most ≤ 1000000 → PCall Try.prog 60 [.agg t.cells, .val (.int .i64 most)] (.val (.int .i64 (t.cnt most))) := by
  induction d with
  | zero => intro t most hd; have := Ty.size_pos t; omega
  | succ d ih =>
    rintro ⟨k, s, n, ks⟩ most hd h1 h2
    have hl := Ty.cellss_len ks
    rw [Ty.size] at hd
    refine ACall.enter Try.func60 rfl (by kernel_rfl) rfl (Nat.le_of_ble_eq_true rfl) ?_
    refine c_start ?_
    refine c_lena (t := 0) (j := 3) rfl rfl (.seq _ _) (fun hmax => ?_)
    refine c_seq ?_
    refine c_region ?_
    refine AOps.st 2 rfl rfl rfl (op_box rfl rfl rfl ?_); intro b2
    refine AOps.st 4 rfl rfl rfl (op_assign rfl rfl ?_)
    refine AOps.nil ?_
    refine go_code ?_
    refine c_seq ?_
    refine c_region ?_
    refine AOps.st 5 rfl rfl rfl (op_assign rfl rfl ?_)
    refine AOps.nil ?_
    refine go_code ?_
    refine c_seq ?_
    refine c_seq ?_
    refine c_bool 20 (k = 1 ∧ (0 < ks.length ∨ n ≠ 0)) ?_ _ _ rfl ?_
    · skip
      first | (refine AOps.st 7 rfl rfl rfl (op_fieldAddr_m rfl tf_24_0 rfl ?_)) | (refine AOps.st 7 rfl rfl rfl (op_fieldAddr_c rfl tf_24_0 rfl rfl ?_))
      first | (refine AOps.st 8 rfl rfl rfl (op_load_m1 (i := 0) rfl ta_3 rfl rfl rfl ?_)) | (refine AOps.st 8 rfl rfl rfl (op_load_m1 (i := 1) rfl ta_3 rfl rfl rfl ?_)) | (refine AOps.st 8 rfl rfl rfl (op_load_m1 (i := 2) rfl ta_3 rfl rfl rfl ?_)) | (refine AOps.st 8 rfl rfl rfl (op_load_m1 (i := 3) rfl ta_3 rfl rfl rfl ?_)) | (refine AOps.st 8 rfl rfl rfl (op_load_m1 (i := 4) rfl ta_3 rfl rfl rfl ?_)) | (refine AOps.st 8 rfl rfl rfl (op_load_m1 (i := 5) rfl ta_3 rfl rfl rfl ?_)) | (refine AOps.st 8 rfl rfl rfl (op_load_c1 rfl ta_3 rfl rfl ?_))
      refine AOps.st 9 rfl rfl rfl (op_eql rfl rfl rfl ?_); intro c9 h9
      refine AOps.st 10 rfl rfl rfl (op_move rfl rfl ?_)
      rcases bool_split h9 with ⟨rfl, g9⟩ | ⟨rfl, g9⟩
      · skip
        refine AOps.gf 11 rfl rfl rfl rfl rfl ?_
        refine AOps.gf 12 rfl rfl rfl rfl rfl ?_
        refine AOps.gf 13 rfl rfl rfl rfl rfl ?_
        refine AOps.gf 14 rfl rfl rfl rfl rfl ?_
        refine AOps.gf 15 rfl rfl rfl rfl rfl ?_
        refine AOps.gu 16 rfl rfl rfl rfl rfl ?_
        refine AOps.gu 17 rfl rfl rfl rfl rfl ?_
        refine AOps.gu 18 rfl rfl rfl rfl rfl ?_
        refine AOps.gf 19 rfl rfl rfl rfl rfl ?_
        refine AOps.st 20 rfl rfl rfl (op_pick rfl rfl rfl ?_)
        refine AOps.nil ?_
        refine BoolQ.mk rfl ?_ (by repeat' (first | exact SLe.refl _ | refine SLe.fresh rfl ?_)) (by first | exact MLe.none _ | exact MLe.refl _ | (repeat' (first | exact MLe.nil | exact MLe.refl _ | refine MLe.cons _ ?_ | refine MLe.drop _ ?_)))
        simp_all
      · skip
        first | (refine AOps.gt 11 rfl rfl rfl rfl rfl (op_fieldAddr_m rfl tf_24_3 rfl ?_)) | (refine AOps.gt 11 rfl rfl rfl rfl rfl (op_fieldAddr_c rfl tf_24_3 rfl rfl ?_))
        first | (refine AOps.gt 12 rfl rfl rfl rfl rfl (op_load_m1 (i := 0) rfl ta_22 rfl rfl rfl ?_)) | (refine AOps.gt 12 rfl rfl rfl rfl rfl (op_load_m1 (i := 1) rfl ta_22 rfl rfl rfl ?_)) | (refine AOps.gt 12 rfl rfl rfl rfl rfl (op_load_m1 (i := 2) rfl ta_22 rfl rfl rfl ?_)) | (refine AOps.gt 12 rfl rfl rfl rfl rfl (op_load_m1 (i := 3) rfl ta_22 rfl rfl rfl ?_)) | (refine AOps.gt 12 rfl rfl rfl rfl rfl (op_load_m1 (i := 4) rfl ta_22 rfl rfl rfl ?_)) | (refine AOps.gt 12 rfl rfl rfl rfl rfl (op_load_m1 (i := 5) rfl ta_22 rfl rfl rfl ?_)) | (refine AOps.gt 12 rfl rfl rfl rfl rfl (op_load_c1 rfl ta_22 rfl rfl ?_))
        first | (refine AOps.gt 13 rfl rfl rfl rfl rfl (op_len rfl tu_22 rfl (.seq _ _) (fun n13 => ?_))) | (refine AOps.gt 13 rfl rfl rfl rfl rfl (op_len rfl tu_22 rfl (.own _ _ _) (fun n13 => ?_))) | (refine AOps.gt 13 rfl rfl rfl rfl rfl (op_len rfl tu_22 rfl (.nil 0) (fun n13 => ?_))) | (refine AOps.gt 13 rfl rfl rfl rfl rfl (op_len_arr rfl tu_22 rfl ?_))
        refine AOps.gt 14 rfl rfl rfl rfl rfl (op_gtr rfl rfl rfl ?_); intro c14 h14
        refine AOps.gt 15 rfl rfl rfl rfl rfl (op_move rfl rfl ?_)
        rcases bool_split h14 with ⟨rfl, g14⟩ | ⟨rfl, g14⟩
        · skip
          first | (refine AOps.gt 16 rfl rfl rfl rfl rfl (op_fieldAddr_m rfl tf_24_2 rfl ?_)) | (refine AOps.gt 16 rfl rfl rfl rfl rfl (op_fieldAddr_c rfl tf_24_2 rfl rfl ?_))
          first | (refine AOps.gt 17 rfl rfl rfl rfl rfl (op_load_m1 (i := 0) rfl ta_3 rfl rfl rfl ?_)) | (refine AOps.gt 17 rfl rfl rfl rfl rfl (op_load_m1 (i := 1) rfl ta_3 rfl rfl rfl ?_)) | (refine AOps.gt 17 rfl rfl rfl rfl rfl (op_load_m1 (i := 2) rfl ta_3 rfl rfl rfl ?_)) | (refine AOps.gt 17 rfl rfl rfl rfl rfl (op_load_m1 (i := 3) rfl ta_3 rfl rfl rfl ?_)) | (refine AOps.gt 17 rfl rfl rfl rfl rfl (op_load_m1 (i := 4) rfl ta_3 rfl rfl rfl ?_)) | (refine AOps.gt 17 rfl rfl rfl rfl rfl (op_load_m1 (i := 5) rfl ta_3 rfl rfl rfl ?_)) | (refine AOps.gt 17 rfl rfl rfl rfl rfl (op_load_c1 rfl ta_3 rfl rfl ?_))
          refine AOps.gt 18 rfl rfl rfl rfl rfl (op_neq rfl rfl rfl ?_); intro c18 h18
          refine AOps.gt 19 rfl rfl rfl rfl rfl (op_pick rfl rfl rfl ?_)
          refine AOps.st 20 rfl rfl rfl (op_pick rfl rfl rfl ?_)
          refine AOps.nil ?_
          refine BoolQ.mk rfl ?_ (by repeat' (first | exact SLe.refl _ | refine SLe.fresh rfl ?_)) (by first | exact MLe.none _ | exact MLe.refl _ | (repeat' (first | exact MLe.nil | exact MLe.refl _ | refine MLe.cons _ ?_ | refine MLe.drop _ ?_)))
          simp_all
        · skip
          refine AOps.gf 16 rfl rfl rfl rfl rfl ?_
          refine AOps.gf 17 rfl rfl rfl rfl rfl ?_
          refine AOps.gf 18 rfl rfl rfl rfl rfl ?_
          refine AOps.gt 19 rfl rfl rfl rfl rfl (op_pick rfl rfl rfl ?_)
          refine AOps.st 20 rfl rfl rfl (op_pick rfl rfl rfl ?_)
          refine AOps.nil ?_
          refine BoolQ.mk rfl ?_ (by repeat' (first | exact SLe.refl _ | refine SLe.fresh rfl ?_)) (by first | exact MLe.none _ | exact MLe.refl _ | (repeat' (first | exact MLe.nil | exact MLe.refl _ | refine MLe.cons _ ?_ | refine MLe.drop _ ?_)))
          simp_all
    intro c20 h20
    refine go_code ?_
    rcases bool_split h20 with ⟨rfl, g20⟩ | ⟨rfl, g20⟩
    · refine c_cond_f rfl ?_
      refine c_skip ?_
      refine go_code ?_
      refine c_seq ?_
      refine c_seq ?_
      refine c_region ?_
      refine AOps.st 6 rfl rfl rfl (op_assign rfl rfl ?_)
      refine AOps.nil ?_
      refine go_code ?_
      refine c_block ?_
      refine c_loop (σ := Nat × Int) (fun zz => match zz with | (i, m) => [(2, .ptr b2 0), (1, .val (.int .i64 most)), (5, .val (.int .i64 m)), (6, .val (.int .i64 i))]) (fun zz => match zz with | (i, m) => [.loc b2 [.val (.int .i64 k), .val (.string s), .val (.int .i64 n), .seq 4 (Ty.cellss ks)]]) (fun zz => match zz with | (i, m) => i ≤ ks.length ∧ 1 ≤ m ∧ m ≤ most ∧ Ty.cnts (ks.drop i) m most = Ty.cnt (.mk k s n ks) most) (fun zz => match zz with | (i, m) => ks.length - i) ((0, 1)) ?_ ?_ ?_ ?_
      · exact ⟨by omega, by omega, h1, by rw [List.drop_zero, Ty.cnt_not (by simpa [Ty.kind, Ty.kids, Ty.num, List.length_pos_iff] using g20)]; rfl⟩
      · exact (by repeat' (first | exact SLe.nil _ | refine SLe.cons rfl ?_ ?_ | exact Le.refl _ | exact Le.own _ _ _ | exact Le.nil _))
      · exact (by first | exact MLe.none _ | exact MLe.refl _ | (repeat' (first | exact MLe.nil | exact MLe.refl _ | refine MLe.cons _ ?_ | refine MLe.drop _ ?_)))
      rintro ⟨i, m⟩ hI
      obtain ⟨hi, m1, m2, hc⟩ := hI
      refine c_seq ?_
      refine c_seq ?_
      refine c_bool 31 (i < ks.length ∧ m < most) ?_ _ _ rfl ?_
      · skip
        refine AOps.st 22 rfl rfl rfl (op_move rfl rfl ?_)
        first | (refine AOps.st 23 rfl rfl rfl (op_fieldAddr_m rfl tf_24_3 rfl ?_)) | (refine AOps.st 23 rfl rfl rfl (op_fieldAddr_c rfl tf_24_3 rfl rfl ?_))
        first | (refine AOps.st 24 rfl rfl rfl (op_load_m1 (i := 0) rfl ta_22 rfl rfl rfl ?_)) | (refine AOps.st 24 rfl rfl rfl (op_load_m1 (i := 1) rfl ta_22 rfl rfl rfl ?_)) | (refine AOps.st 24 rfl rfl rfl (op_load_m1 (i := 2) rfl ta_22 rfl rfl rfl ?_)) | (refine AOps.st 24 rfl rfl rfl (op_load_m1 (i := 3) rfl ta_22 rfl rfl rfl ?_)) | (refine AOps.st 24 rfl rfl rfl (op_load_m1 (i := 4) rfl ta_22 rfl rfl rfl ?_)) | (refine AOps.st 24 rfl rfl rfl (op_load_m1 (i := 5) rfl ta_22 rfl rfl rfl ?_)) | (refine AOps.st 24 rfl rfl rfl (op_load_c1 rfl ta_22 rfl rfl ?_))
        first | (refine AOps.st 25 rfl rfl rfl (op_len rfl tu_22 rfl (.seq _ _) (fun n25 => ?_))) | (refine AOps.st 25 rfl rfl rfl (op_len rfl tu_22 rfl (.own _ _ _) (fun n25 => ?_))) | (refine AOps.st 25 rfl rfl rfl (op_len rfl tu_22 rfl (.nil 0) (fun n25 => ?_))) | (refine AOps.st 25 rfl rfl rfl (op_len_arr rfl tu_22 rfl ?_))
        refine AOps.st 26 rfl rfl rfl (op_lss rfl rfl rfl ?_); intro c26 h26
        refine AOps.st 27 rfl rfl rfl (op_move rfl rfl ?_)
        rcases bool_split h26 with ⟨rfl, g26⟩ | ⟨rfl, g26⟩
        · skip
          refine AOps.gf 28 rfl rfl rfl rfl rfl ?_
          refine AOps.gf 29 rfl rfl rfl rfl rfl ?_
          refine AOps.gf 30 rfl rfl rfl rfl rfl ?_
          refine AOps.st 31 rfl rfl rfl (op_pick rfl rfl rfl ?_)
          refine AOps.nil ?_
          refine BoolQ.mk rfl ?_ (by repeat' (first | exact SLe.refl _ | refine SLe.fresh rfl ?_)) (by first | exact MLe.none _ | exact MLe.refl _ | (repeat' (first | exact MLe.nil | exact MLe.refl _ | refine MLe.cons _ ?_ | refine MLe.drop _ ?_)))
          simp_all
        · skip
          refine AOps.gt 28 rfl rfl rfl rfl rfl (op_move rfl rfl ?_)
          refine AOps.gt 29 rfl rfl rfl rfl rfl (op_move rfl rfl ?_)
          refine AOps.gt 30 rfl rfl rfl rfl rfl (op_lss rfl rfl rfl ?_); intro c30 h30
          refine AOps.st 31 rfl rfl rfl (op_pick rfl rfl rfl ?_)
          refine AOps.nil ?_
          refine BoolQ.mk rfl ?_ (by repeat' (first | exact SLe.refl _ | refine SLe.fresh rfl ?_)) (by first | exact MLe.none _ | exact MLe.refl _ | (repeat' (first | exact MLe.nil | exact MLe.refl _ | refine MLe.cons _ ?_ | refine MLe.drop _ ?_)))
          simp_all
      intro c31 h31
      refine go_code ?_
      rcases bool_split h31 with ⟨rfl, g31⟩ | ⟨rfl, g31⟩
      · refine c_cond_f rfl ?_
        refine c_exit ?_
        refine x_code ?_
        refine x_lp ?_
        refine x_here ?_
        refine go_code ?_
        refine c_seq ?_
        refine c_region ?_
        refine AOps.st 45 rfl rfl rfl (op_move rfl rfl ?_)
        refine AOps.st 4 rfl rfl rfl (op_assign rfl rfl ?_)
        refine AOps.nil ?_
        refine go_code ?_
        refine c_ret ?_
        refine out_tmp rfl rfl (Le.refl _) (by first | exact MLe.none _ | exact MLe.refl _ | (repeat' (first | exact MLe.nil | exact MLe.refl _ | refine MLe.cons _ ?_ | refine MLe.drop _ ?_))) ⟨?_, rfl⟩
        rw [← hc]
        by_cases e : i < ks.length
        · obtain ⟨x, hx⟩ := get_some e
          rw [drop_at hx, Ty.cnts, if_neg (fun q => g31 ⟨e, q⟩)]
        · rw [List.drop_eq_nil_of_le (by omega), Ty.cnts]
      · refine c_cond_t rfl ?_
        refine c_skip ?_
        refine go_code ?_
        refine c_seq ?_
        refine c_block ?_
        obtain ⟨⟨k', s', n', ks'⟩, hx⟩ := get_some g31.1
        have hcx := Ty.cellss_get hx
        have hsz := Ty.size_at hx
        have hb := Ty.cnt_bd (.mk k' s' n' ks') (most - m) (by omega)
        refine c_region ?_
        refine AOps.st 34 rfl rfl rfl (op_move rfl rfl ?_)
        first | (refine AOps.st 35 rfl rfl rfl (op_fieldAddr_m rfl tf_24_3 rfl ?_)) | (refine AOps.st 35 rfl rfl rfl (op_fieldAddr_c rfl tf_24_3 rfl rfl ?_))
        first | (refine AOps.st 36 rfl rfl rfl (op_load_m1 (i := 0) rfl ta_22 rfl rfl rfl ?_)) | (refine AOps.st 36 rfl rfl rfl (op_load_m1 (i := 1) rfl ta_22 rfl rfl rfl ?_)) | (refine AOps.st 36 rfl rfl rfl (op_load_m1 (i := 2) rfl ta_22 rfl rfl rfl ?_)) | (refine AOps.st 36 rfl rfl rfl (op_load_m1 (i := 3) rfl ta_22 rfl rfl rfl ?_)) | (refine AOps.st 36 rfl rfl rfl (op_load_m1 (i := 4) rfl ta_22 rfl rfl rfl ?_)) | (refine AOps.st 36 rfl rfl rfl (op_load_m1 (i := 5) rfl ta_22 rfl rfl rfl ?_)) | (refine AOps.st 36 rfl rfl rfl (op_load_c1 rfl ta_22 rfl rfl ?_))
        refine AOps.st 37 rfl rfl rfl (op_move rfl rfl ?_)
        first | (refine AOps.st 38 rfl rfl rfl (op_index rfl te_22 rfl (.seq _ _) rfl rfl (by assumption) ?_)) | (refine AOps.st 38 rfl rfl rfl (op_index (i := 0) rfl te_22 rfl (.seq _ _) rfl rfl (by first | rfl | assumption) ?_)) | (refine AOps.st 38 rfl rfl rfl (op_index (i := 1) rfl te_22 rfl (.seq _ _) rfl rfl (by first | rfl | assumption) ?_)) | (refine AOps.st 38 rfl rfl rfl (op_index rfl te_22 rfl (.own _ _ _) rfl rfl (by assumption) ?_)) | (refine AOps.st 38 rfl rfl rfl (op_index (i := 0) rfl te_22 rfl (.own _ _ _) rfl rfl (by first | rfl | assumption) ?_)) | (refine AOps.st 38 rfl rfl rfl (op_index (i := 1) rfl te_22 rfl (.own _ _ _) rfl rfl (by first | rfl | assumption) ?_)) | (refine AOps.st 38 rfl rfl rfl (op_index_arr rfl te_22 rfl rfl rfl (by omega) ?_))
        first | (refine AOps.st 39 rfl rfl rfl (op_load_m (i := 0) rfl ta_24 rfl rfl rfl rfl ?_)) | (refine AOps.st 39 rfl rfl rfl (op_load_m (i := 1) rfl ta_24 rfl rfl rfl rfl ?_)) | (refine AOps.st 39 rfl rfl rfl (op_load_m (i := 2) rfl ta_24 rfl rfl rfl rfl ?_)) | (refine AOps.st 39 rfl rfl rfl (op_load_m (i := 3) rfl ta_24 rfl rfl rfl rfl ?_)) | (refine AOps.st 39 rfl rfl rfl (op_load_m (i := 4) rfl ta_24 rfl rfl rfl rfl ?_)) | (refine AOps.st 39 rfl rfl rfl (op_load_m (i := 5) rfl ta_24 rfl rfl rfl rfl ?_)) | (refine AOps.st 39 rfl rfl rfl (op_load_c rfl ta_24 rfl rfl rfl ?_))
        refine AOps.st 40 rfl rfl rfl (op_move rfl rfl ?_)
        refine AOps.st 41 rfl rfl rfl (op_move rfl rfl ?_)
        first | (refine AOps.st 42 rfl rfl rfl (op_sub rfl rfl rfl (IntWalk.i64_in _ (by omega)) ?_)) | (refine AOps.st 42 rfl rfl rfl (op_sub rfl rfl rfl rfl ?_))
        refine AOps.st 43 rfl rfl rfl (op_callp (xs := [.tmp 39, .tmp 42]) rfl rfl (ih (.mk k' s' n' ks') (most - m) (by omega) (by omega) (by omega)) (by first | exact Les.refl _ | (repeat' (first | exact Les.refl _ | refine Les.cons ?_ ?_ | exact Le.refl _ | exact Le.own _ _ _ | exact Le.nil _ | refine Le.agg ?_))) ?_)
        first | (refine AOps.st 44 rfl rfl rfl (op_add rfl rfl rfl (IntWalk.i64_in _ (by omega)) ?_)) | (refine AOps.st 44 rfl rfl rfl (op_add rfl rfl rfl rfl ?_))
        refine AOps.st 5 rfl rfl rfl (op_assign rfl rfl ?_)
        refine AOps.nil ?_
        refine go_blk ?_
        refine go_code ?_
        refine c_region ?_
        refine AOps.st 32 rfl rfl rfl (op_move rfl rfl ?_)
        first | (refine AOps.st 33 rfl rfl rfl (op_add rfl rfl rfl (IntWalk.i64_in _ (by omega)) ?_)) | (refine AOps.st 33 rfl rfl rfl (op_add rfl rfl rfl rfl ?_))
        refine AOps.st 6 rfl rfl rfl (op_assign rfl rfl ?_)
        refine AOps.nil ?_
        refine go_lp ?_
        refine ⟨(i + 1, m + Ty.cnt (.mk k' s' n' ks') (most - m)), ⟨by omega, by omega, by omega, ?_⟩, by simp; omega, (by repeat' (first | exact SLe.nil _ | refine SLe.cons rfl ?_ ?_ | exact Le.refl _ | exact Le.own _ _ _ | exact Le.nil _)), (by first | exact MLe.none _ | exact MLe.refl _ | (repeat' (first | exact MLe.nil | exact MLe.refl _ | refine MLe.cons _ ?_ | refine MLe.drop _ ?_)))⟩
        rw [← hc, drop_at hx, Ty.cnts, if_pos g31.2]
    · refine c_cond_t rfl ?_
      refine c_seq ?_
      refine c_region ?_
      refine AOps.st 21 rfl rfl rfl (op_move rfl rfl ?_)
      refine AOps.st 4 rfl rfl rfl (op_assign rfl rfl ?_)
      refine AOps.nil ?_
      refine go_code ?_
      refine c_ret ?_
      exact out_tmp rfl rfl (Le.refl _) (by first | exact MLe.none _ | exact MLe.refl _ | (repeat' (first | exact MLe.nil | exact MLe.refl _ | refine MLe.cons _ ?_ | refine MLe.drop _ ?_))) ⟨by rw [Ty.cnt_var (by simpa [Ty.kind, Ty.kids, Ty.num, List.length_pos_iff] using g20)], rfl⟩
set_option maxRecDepth 100000 in
theorem Small_c (t : Ty) (most : Int) (h1 : 0 ≤ most) (h2 : most ≤ 100000) : BCall Try.prog 13 [.agg t.cells, .val (.int .i64 most)] (t.small most = true) := by
  obtain ⟨k, s, n, ks⟩ := t
  have hb := Ty.cnt_bd (.mk k s n ks) (most + 1) (by omega)
  refine ACall.enter Try.func13 rfl (by kernel_rfl) rfl (Nat.le_of_ble_eq_true rfl) ?_
  refine c_start ?_
  refine c_seq ?_
  refine c_region ?_
  refine AOps.st 2 rfl rfl rfl (op_box rfl rfl rfl ?_); intro b2
  refine AOps.st 4 rfl rfl rfl (op_assign rfl rfl ?_)
  refine AOps.nil ?_
  refine go_code ?_
  refine c_seq ?_
  refine c_region ?_
  first | (refine AOps.st 5 rfl rfl rfl (op_load_m (i := 0) rfl ta_24 rfl rfl rfl rfl ?_)) | (refine AOps.st 5 rfl rfl rfl (op_load_m (i := 1) rfl ta_24 rfl rfl rfl rfl ?_)) | (refine AOps.st 5 rfl rfl rfl (op_load_m (i := 2) rfl ta_24 rfl rfl rfl rfl ?_)) | (refine AOps.st 5 rfl rfl rfl (op_load_m (i := 3) rfl ta_24 rfl rfl rfl rfl ?_)) | (refine AOps.st 5 rfl rfl rfl (op_load_m (i := 4) rfl ta_24 rfl rfl rfl rfl ?_)) | (refine AOps.st 5 rfl rfl rfl (op_load_m (i := 5) rfl ta_24 rfl rfl rfl rfl ?_)) | (refine AOps.st 5 rfl rfl rfl (op_load_c rfl ta_24 rfl rfl rfl ?_))
  refine AOps.st 6 rfl rfl rfl (op_move rfl rfl ?_)
  first | (refine AOps.st 7 rfl rfl rfl (op_add rfl rfl rfl (IntWalk.i64_in _ (by omega)) ?_)) | (refine AOps.st 7 rfl rfl rfl (op_add rfl rfl rfl rfl ?_))
  refine AOps.st 8 rfl rfl rfl (op_callp (xs := [.tmp 5, .tmp 7]) rfl rfl (count_c _ (.mk k s n ks) (most + 1) (Nat.le_refl _) (by omega) (by omega)) (by first | exact Les.refl _ | (repeat' (first | exact Les.refl _ | refine Les.cons ?_ ?_ | exact Le.refl _ | exact Le.own _ _ _ | exact Le.nil _ | refine Le.agg ?_))) ?_)
  refine AOps.st 9 rfl rfl rfl (op_move rfl rfl ?_)
  refine AOps.st 10 rfl rfl rfl (op_leq rfl rfl rfl ?_); intro c10 h10
  refine AOps.st 4 rfl rfl rfl (op_assign rfl rfl ?_)
  refine AOps.nil ?_
  refine go_code ?_
  refine c_ret ?_
  exact out_tmp rfl rfl (Le.refl _) (by first | exact MLe.none _ | exact MLe.refl _ | (repeat' (first | exact MLe.nil | exact MLe.refl _ | refine MLe.cons _ ?_ | refine MLe.drop _ ?_))) ⟨⟨_, h10.trans (by simp [Ty.small]), rfl⟩, rfl⟩
end Go.Proofs.Ytjgjnheeohfmmaa
