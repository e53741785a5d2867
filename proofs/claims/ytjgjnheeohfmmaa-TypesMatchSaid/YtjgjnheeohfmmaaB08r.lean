/- the document's match: part, Match -/
import Derived.Test.YtjgjnheeohfmmaaPO
import Derived.Test.YtjgjnheeohfmmaaB08p
import Derived.Test.YtjgjnheeohfmmaaB08d
namespace Go.Proofs.Ytjgjnheeohfmmaa
open Go.RowKit
abbrev zT : Ty := .mk 0 ⟨#[]⟩ 0 []
set_option maxRecDepth 100000 in
theorem part_c (s : ByteArray) (d : Nat) : ∀ a b : Ty, a.size ≤ d → a.size ≤ 1000000 → PCall Try.prog 62 [.agg a.cells, .agg b.cells, .val (.string s)] (.tup [.agg ((Ty.part s a b).getD zT).cells, .val (.bool (Ty.part s a b).isSome)]) := by
  induction d with
  | zero => intro a b hd; have := Ty.size_pos a; omega
  | succ d ih =>
    rintro ⟨k1, s1, n1, ks1⟩ ⟨k2, s2, n2, ks2⟩ hd hmx
    rw [Ty.size] at hd hmx
    have hls := Ty.len_sizes ks1
    have hl1 := Ty.cellss_len ks1
    have hl2 := Ty.cellss_len ks2
    refine ACall.enter Try.func62 rfl (by kernel_rfl) rfl (Nat.le_of_ble_eq_true rfl) ?_
    refine c_start ?_
    refine c_seq ?_
    refine c_region ?_
    refine AOps.st 3 rfl rfl rfl (op_box rfl rfl rfl ?_); intro b3
    refine AOps.st 4 rfl rfl rfl (op_box rfl rfl rfl ?_); intro b4
    refine AOps.st 6 rfl rfl rfl (op_alloc rfl tz_24 rfl ?_); intro b6
    refine AOps.st 7 rfl rfl rfl (op_assign rfl rfl ?_)
    refine AOps.nil ?_
    refine go_code ?_
    refine c_seq ?_
    refine c_seq ?_
    refine c_bool 19 (k1 = 1 ∧ s1 = s) ?_ _ _ rfl ?_
    · skip
      first | (refine AOps.st 11 rfl rfl rfl (op_fieldAddr_m rfl tf_24_0 rfl ?_)) | (refine AOps.st 11 rfl rfl rfl (op_fieldAddr_c rfl tf_24_0 rfl rfl ?_))
      first | (refine AOps.st 12 rfl rfl rfl (op_load_m1 (i := 0) rfl ta_3 rfl rfl rfl ?_)) | (refine AOps.st 12 rfl rfl rfl (op_load_m1 (i := 1) rfl ta_3 rfl rfl rfl ?_)) | (refine AOps.st 12 rfl rfl rfl (op_load_m1 (i := 2) rfl ta_3 rfl rfl rfl ?_)) | (refine AOps.st 12 rfl rfl rfl (op_load_m1 (i := 3) rfl ta_3 rfl rfl rfl ?_)) | (refine AOps.st 12 rfl rfl rfl (op_load_m1 (i := 4) rfl ta_3 rfl rfl rfl ?_)) | (refine AOps.st 12 rfl rfl rfl (op_load_m1 (i := 5) rfl ta_3 rfl rfl rfl ?_)) | (refine AOps.st 12 rfl rfl rfl (op_load_c1 rfl ta_3 rfl rfl ?_))
      refine AOps.st 13 rfl rfl rfl (op_eql rfl rfl rfl ?_); intro c13 h13
      refine AOps.st 14 rfl rfl rfl (op_move rfl rfl ?_)
      rcases bool_split h13 with ⟨rfl, g13⟩ | ⟨rfl, g13⟩
      · skip
        refine AOps.gf 15 rfl rfl rfl rfl rfl ?_
        refine AOps.gf 16 rfl rfl rfl rfl rfl ?_
        refine AOps.gf 17 rfl rfl rfl rfl rfl ?_
        refine AOps.gf 18 rfl rfl rfl rfl rfl ?_
        refine AOps.st 19 rfl rfl rfl (op_pick rfl rfl rfl ?_)
        refine AOps.nil ?_
        refine BoolQ.mk rfl ?_ (by repeat' (first | exact SLe.wo _ _ | exact SLe.refl _ | refine SLe.fresh rfl ?_)) (by first | exact MLe.none _ | exact MLe.refl _ | (repeat' (first | exact MLe.nil | exact MLe.refl _ | refine MLe.cons _ ?_ | refine MLe.drop _ ?_)))
        simp_all
      · skip
        first | (refine AOps.gt 15 rfl rfl rfl rfl rfl (op_fieldAddr_m rfl tf_24_1 rfl ?_)) | (refine AOps.gt 15 rfl rfl rfl rfl rfl (op_fieldAddr_c rfl tf_24_1 rfl rfl ?_))
        first | (refine AOps.gt 16 rfl rfl rfl rfl rfl (op_load_m1 (i := 0) rfl ta_9 rfl rfl rfl ?_)) | (refine AOps.gt 16 rfl rfl rfl rfl rfl (op_load_m1 (i := 1) rfl ta_9 rfl rfl rfl ?_)) | (refine AOps.gt 16 rfl rfl rfl rfl rfl (op_load_m1 (i := 2) rfl ta_9 rfl rfl rfl ?_)) | (refine AOps.gt 16 rfl rfl rfl rfl rfl (op_load_m1 (i := 3) rfl ta_9 rfl rfl rfl ?_)) | (refine AOps.gt 16 rfl rfl rfl rfl rfl (op_load_m1 (i := 4) rfl ta_9 rfl rfl rfl ?_)) | (refine AOps.gt 16 rfl rfl rfl rfl rfl (op_load_m1 (i := 5) rfl ta_9 rfl rfl rfl ?_)) | (refine AOps.gt 16 rfl rfl rfl rfl rfl (op_load_c1 rfl ta_9 rfl rfl ?_))
        refine AOps.gt 17 rfl rfl rfl rfl rfl (op_move rfl rfl ?_)
        refine AOps.gt 18 rfl rfl rfl rfl rfl (op_seql rfl rfl rfl ?_); intro c18 h18
        refine AOps.st 19 rfl rfl rfl (op_pick rfl rfl rfl ?_)
        refine AOps.nil ?_
        refine BoolQ.mk rfl ?_ (by repeat' (first | exact SLe.wo _ _ | exact SLe.refl _ | refine SLe.fresh rfl ?_)) (by first | exact MLe.none _ | exact MLe.refl _ | (repeat' (first | exact MLe.nil | exact MLe.refl _ | refine MLe.cons _ ?_ | refine MLe.drop _ ?_)))
        simp_all
    intro c19 h19
    refine go_code ?_
    rcases bool_split h19 with ⟨rfl, g19⟩ | ⟨rfl, g19⟩
    · refine c_cond_f rfl ?_
      refine c_skip ?_
      refine go_code ?_
      refine c_seq ?_
      refine c_seq ?_
      have hP : Ty.part s (.mk k1 s1 n1 ks1) (.mk k2 s2 n2 ks2) = Ty.parts s ks1 ks2 := by rw [Ty.part, if_neg g19]; rfl
      rw [hP]
      refine c_region ?_
      refine AOps.st 8 rfl rfl rfl (op_assign rfl rfl ?_)
      refine AOps.nil ?_
      refine go_code ?_
      refine c_block ?_
      refine c_loop (σ := Nat) (fun zz => match zz with | i => [(2, .val (.string s)), (3, .ptr b3 0), (4, .ptr b4 0), (6, .ptr b6 0), (8, .val (.int .i64 i))]) (fun zz => match zz with | i => [.loc b6 zTy, .loc b4 (Ty.cells (.mk k2 s2 n2 ks2)), .loc b3 (Ty.cells (.mk k1 s1 n1 ks1))]) (fun zz => match zz with | i => i ≤ ks1.length ∧ i ≤ ks2.length ∧ Ty.parts s (ks1.drop i) (ks2.drop i) = Ty.parts s ks1 ks2) (fun zz => match zz with | i => ks1.length - i) (0) ?_ ?_ ?_ ?_
      · exact ⟨by omega, by omega, rfl⟩
      · exact (by repeat' (first | exact SLe.nil _ | refine SLe.cons rfl ?_ ?_ | exact Le.refl _ | exact Le.own _ _ _ | exact Le.nil _))
      · exact (by first | exact MLe.none _ | exact MLe.refl _ | (repeat' (first | exact MLe.nil | exact MLe.refl _ | refine MLe.cons _ ?_ | refine MLe.drop _ ?_)))
      rintro i hI
      try dsimp only at hI ⊢
      obtain ⟨hi1, hi2, hp⟩ := hI
      refine c_seq ?_
      refine c_seq ?_
      refine c_bool 32 (i < ks1.length ∧ i < ks2.length) ?_ _ _ rfl ?_
      · skip
        refine AOps.st 21 rfl rfl rfl (op_move rfl rfl ?_)
        first | (refine AOps.st 22 rfl rfl rfl (op_fieldAddr_m rfl tf_24_3 rfl ?_)) | (refine AOps.st 22 rfl rfl rfl (op_fieldAddr_c rfl tf_24_3 rfl rfl ?_))
        first | (refine AOps.st 23 rfl rfl rfl (op_load_m1 (i := 0) rfl ta_22 rfl rfl rfl ?_)) | (refine AOps.st 23 rfl rfl rfl (op_load_m1 (i := 1) rfl ta_22 rfl rfl rfl ?_)) | (refine AOps.st 23 rfl rfl rfl (op_load_m1 (i := 2) rfl ta_22 rfl rfl rfl ?_)) | (refine AOps.st 23 rfl rfl rfl (op_load_m1 (i := 3) rfl ta_22 rfl rfl rfl ?_)) | (refine AOps.st 23 rfl rfl rfl (op_load_m1 (i := 4) rfl ta_22 rfl rfl rfl ?_)) | (refine AOps.st 23 rfl rfl rfl (op_load_m1 (i := 5) rfl ta_22 rfl rfl rfl ?_)) | (refine AOps.st 23 rfl rfl rfl (op_load_c1 rfl ta_22 rfl rfl ?_))
        first | (refine AOps.st 24 rfl rfl rfl (op_len rfl tu_22 rfl (.seq _ _) (fun n24 => ?_))) | (refine AOps.st 24 rfl rfl rfl (op_len rfl tu_22 rfl (.own _ _ _) (fun n24 => ?_))) | (refine AOps.st 24 rfl rfl rfl (op_len rfl tu_22 rfl (.nil 0) (fun n24 => ?_))) | (refine AOps.st 24 rfl rfl rfl (op_len_arr rfl tu_22 rfl ?_))
        refine AOps.st 25 rfl rfl rfl (op_lss rfl rfl rfl ?_); intro c25 h25
        refine AOps.st 26 rfl rfl rfl (op_move rfl rfl ?_)
        rcases bool_split h25 with ⟨rfl, g25⟩ | ⟨rfl, g25⟩
        · skip
          refine AOps.gf 27 rfl rfl rfl rfl rfl ?_
          refine AOps.gf 28 rfl rfl rfl rfl rfl ?_
          refine AOps.gf 29 rfl rfl rfl rfl rfl ?_
          refine AOps.gf 30 rfl rfl rfl rfl rfl ?_
          refine AOps.gf 31 rfl rfl rfl rfl rfl ?_
          refine AOps.st 32 rfl rfl rfl (op_pick rfl rfl rfl ?_)
          refine AOps.nil ?_
          refine BoolQ.mk rfl ?_ (by repeat' (first | exact SLe.wo _ _ | exact SLe.refl _ | refine SLe.fresh rfl ?_)) (by first | exact MLe.none _ | exact MLe.refl _ | (repeat' (first | exact MLe.nil | exact MLe.refl _ | refine MLe.cons _ ?_ | refine MLe.drop _ ?_)))
          first | (simp_all; done) | (simp_all; omega)
        · skip
          refine AOps.gt 27 rfl rfl rfl rfl rfl (op_move rfl rfl ?_)
          first | (refine AOps.gt 28 rfl rfl rfl rfl rfl (op_fieldAddr_m rfl tf_24_3 rfl ?_)) | (refine AOps.gt 28 rfl rfl rfl rfl rfl (op_fieldAddr_c rfl tf_24_3 rfl rfl ?_))
          first | (refine AOps.gt 29 rfl rfl rfl rfl rfl (op_load_m1 (i := 0) rfl ta_22 rfl rfl rfl ?_)) | (refine AOps.gt 29 rfl rfl rfl rfl rfl (op_load_m1 (i := 1) rfl ta_22 rfl rfl rfl ?_)) | (refine AOps.gt 29 rfl rfl rfl rfl rfl (op_load_m1 (i := 2) rfl ta_22 rfl rfl rfl ?_)) | (refine AOps.gt 29 rfl rfl rfl rfl rfl (op_load_m1 (i := 3) rfl ta_22 rfl rfl rfl ?_)) | (refine AOps.gt 29 rfl rfl rfl rfl rfl (op_load_m1 (i := 4) rfl ta_22 rfl rfl rfl ?_)) | (refine AOps.gt 29 rfl rfl rfl rfl rfl (op_load_m1 (i := 5) rfl ta_22 rfl rfl rfl ?_)) | (refine AOps.gt 29 rfl rfl rfl rfl rfl (op_load_c1 rfl ta_22 rfl rfl ?_))
          first | (refine AOps.gt 30 rfl rfl rfl rfl rfl (op_len rfl tu_22 rfl (.seq _ _) (fun n30 => ?_))) | (refine AOps.gt 30 rfl rfl rfl rfl rfl (op_len rfl tu_22 rfl (.own _ _ _) (fun n30 => ?_))) | (refine AOps.gt 30 rfl rfl rfl rfl rfl (op_len rfl tu_22 rfl (.nil 0) (fun n30 => ?_))) | (refine AOps.gt 30 rfl rfl rfl rfl rfl (op_len_arr rfl tu_22 rfl ?_))
          refine AOps.gt 31 rfl rfl rfl rfl rfl (op_lss rfl rfl rfl ?_); intro c31 h31
          refine AOps.st 32 rfl rfl rfl (op_pick rfl rfl rfl ?_)
          refine AOps.nil ?_
          refine BoolQ.mk rfl ?_ (by repeat' (first | exact SLe.wo _ _ | exact SLe.refl _ | refine SLe.fresh rfl ?_)) (by first | exact MLe.none _ | exact MLe.refl _ | (repeat' (first | exact MLe.nil | exact MLe.refl _ | refine MLe.cons _ ?_ | refine MLe.drop _ ?_)))
          first | (simp_all; done) | (simp_all; omega)
      intro c32 h32
      refine go_code ?_
      rcases bool_split h32 with ⟨rfl, g32⟩ | ⟨rfl, g32⟩
      · refine c_cond_f rfl ?_
        refine c_exit ?_
        refine x_code ?_
        refine x_lp ?_
        refine x_here ?_
        refine go_code ?_
        refine c_seq ?_
        refine c_region ?_
        refine AOps.st 52 rfl rfl rfl (op_build (ns := []) (xs := []) rfl tz_24 rfl tfl_24 rfl rfl rfl rfl ?_)
        first | (refine AOps.st0 rfl rfl (op_store (i := 0) rfl ts_24 rfl rfl rfl rfl rfl (Nat.le_of_ble_eq_true rfl) rfl ?_)) | (refine AOps.st0 rfl rfl (op_store (i := 1) rfl ts_24 rfl rfl rfl rfl rfl (Nat.le_of_ble_eq_true rfl) rfl ?_)) | (refine AOps.st0 rfl rfl (op_store (i := 2) rfl ts_24 rfl rfl rfl rfl rfl (Nat.le_of_ble_eq_true rfl) rfl ?_)) | (refine AOps.st0 rfl rfl (op_store (i := 3) rfl ts_24 rfl rfl rfl rfl rfl (Nat.le_of_ble_eq_true rfl) rfl ?_)) | (refine AOps.st0 rfl rfl (op_store (i := 4) rfl ts_24 rfl rfl rfl rfl rfl (Nat.le_of_ble_eq_true rfl) rfl ?_)) | (refine AOps.st0 rfl rfl (op_store (i := 5) rfl ts_24 rfl rfl rfl rfl rfl (Nat.le_of_ble_eq_true rfl) rfl ?_))
        refine AOps.st 7 rfl rfl rfl (op_assign rfl rfl ?_)
        refine AOps.nil ?_
        refine go_code ?_
        refine c_ret ?_
        have hN : Ty.parts s ks1 ks2 = none := by
          rw [← hp]
          refine Ty.parts_nil ?_
          rcases Nat.lt_or_ge i ks1.length with q | q
          · right; exact List.drop_eq_nil_of_le (by omega)
          · left; exact List.drop_eq_nil_of_le q
        rw [hN]
        exact out_ct (i := 0) rfl rfl rfl rfl ta_24 rfl (by repeat' (first | exact Le.refl _ | exact Le.own _ _ _ | exact Le.nil _ | refine Le.agg ?_ | refine Le.tup ?_ | exact Les.refl _ | refine Les.cons ?_ ?_)) (by first | exact MLe.none _ | exact MLe.refl _ | (repeat' (first | exact MLe.nil | exact MLe.refl _ | refine MLe.cons _ ?_ | refine MLe.drop _ ?_))) ⟨rfl, rfl⟩
      · refine c_cond_t rfl ?_
        refine c_skip ?_
        refine go_code ?_
        refine c_seq ?_
        refine c_block ?_
        refine c_seq ?_
        obtain ⟨⟨k', s', n', ks'⟩, hx⟩ := get_some (l := ks1) (i := i) g32.1
        obtain ⟨⟨k3, s3, n3, ks3⟩, hy⟩ := get_some (l := ks2) (i := i) g32.2
        have hcx := Ty.cellss_get hx
        have hcy := Ty.cellss_get hy
        have hsz := Ty.size_at hx
        have H := ih (.mk k' s' n' ks') (.mk k3 s3 n3 ks3) (by omega) (by omega)
        rw [drop_at hx, drop_at hy, Ty.parts] at hp
        generalize Ty.part s (.mk k' s' n' ks') (.mk k3 s3 n3 ks3) = r at H hp
        generalize hz : r.getD zT = z at H
        generalize hc : r.isSome = c49 at H
        have h49 : c49 = true ↔ r.isSome = true := by rw [hc]
        obtain ⟨zk, zs, zn, zks⟩ := z
        refine c_drawnE [0, 1, 2, 3, 4, 5, 6, 7, 8, 9, 10, 11, 12, 13, 14, 15, 16, 17] [15, 16] [[], [0], [], [0, 1, 2], [0, 1, 2, 3], [], [5], [], [5, 6, 7], [5, 6, 7, 8], [], [0, 1, 2, 3, 4, 5, 6, 7, 8, 9, 10], [0, 1, 2, 3, 4, 5, 6, 7, 8, 9, 10, 11], [0, 1, 2, 3, 4, 5, 6, 7, 8, 9, 10, 11, 12], [0, 1, 2, 3, 4, 5, 6, 7, 8, 9, 10, 11, 12], [], [0, 1, 2, 3, 4, 5, 6, 7, 8, 9, 10, 11, 12, 13, 15], [0, 1, 2, 3, 4, 5, 6, 7, 8, 9, 10, 11, 12, 13, 14, 15, 16]] tmix rfl ?_
        first | (refine EOps.d 36 (none) (i := 0) rfl rfl rfl rfl rfl (op_fieldAddr_m rfl tf_24_3 rfl ⟨rfl, rfl⟩) ?_) | (refine EOps.d 36 (none) (i := 0) rfl rfl rfl rfl rfl (op_fieldAddr_c rfl tf_24_3 rfl rfl ⟨rfl, rfl⟩) ?_)
        first | (refine EOps.d 37 (some 0) (i := 1) rfl rfl rfl rfl rfl (op_load_m1 (i := 0) rfl ta_22 rfl rfl rfl ⟨rfl, rfl⟩) ?_) | (refine EOps.d 37 (some 1) (i := 1) rfl rfl rfl rfl rfl (op_load_m1 (i := 0) rfl ta_22 rfl rfl rfl ⟨rfl, rfl⟩) ?_) | (refine EOps.d 37 (some 2) (i := 1) rfl rfl rfl rfl rfl (op_load_m1 (i := 0) rfl ta_22 rfl rfl rfl ⟨rfl, rfl⟩) ?_) | (refine EOps.d 37 (some 3) (i := 1) rfl rfl rfl rfl rfl (op_load_m1 (i := 0) rfl ta_22 rfl rfl rfl ⟨rfl, rfl⟩) ?_) | (refine EOps.d 37 (some 4) (i := 1) rfl rfl rfl rfl rfl (op_load_m1 (i := 0) rfl ta_22 rfl rfl rfl ⟨rfl, rfl⟩) ?_) | (refine EOps.d 37 (some 5) (i := 1) rfl rfl rfl rfl rfl (op_load_m1 (i := 0) rfl ta_22 rfl rfl rfl ⟨rfl, rfl⟩) ?_) | (refine EOps.d 37 (none) (i := 1) rfl rfl rfl rfl rfl (op_load_c1 rfl ta_22 rfl rfl ⟨rfl, rfl⟩) ?_)
        refine EOps.d 38 (none) (i := 2) rfl rfl rfl rfl rfl (op_move rfl rfl ⟨rfl, rfl⟩) ?_
        first | (refine EOps.d 39 (none) (i := 3) rfl rfl rfl rfl rfl (op_index rfl te_22 rfl (.seq _ _) rfl rfl (by assumption) ⟨rfl, rfl⟩) ?_) | (refine EOps.d 39 (none) (i := 3) rfl rfl rfl rfl rfl (op_index (i := 0) rfl te_22 rfl (.seq _ _) rfl rfl (by first | rfl | assumption) ⟨rfl, rfl⟩) ?_) | (refine EOps.d 39 (none) (i := 3) rfl rfl rfl rfl rfl (op_index (i := 1) rfl te_22 rfl (.seq _ _) rfl rfl (by first | rfl | assumption) ⟨rfl, rfl⟩) ?_) | (refine EOps.d 39 (none) (i := 3) rfl rfl rfl rfl rfl (op_index rfl te_22 rfl (.own _ _ _) rfl rfl (by assumption) ⟨rfl, rfl⟩) ?_) | (refine EOps.d 39 (none) (i := 3) rfl rfl rfl rfl rfl (op_index (i := 0) rfl te_22 rfl (.own _ _ _) rfl rfl (by first | rfl | assumption) ⟨rfl, rfl⟩) ?_) | (refine EOps.d 39 (none) (i := 3) rfl rfl rfl rfl rfl (op_index (i := 1) rfl te_22 rfl (.own _ _ _) rfl rfl (by first | rfl | assumption) ⟨rfl, rfl⟩) ?_) | (refine EOps.d 39 (none) (i := 3) rfl rfl rfl rfl rfl (op_index_arr rfl te_22 rfl rfl rfl (by omega) ⟨rfl, rfl⟩) ?_)
        first | (refine EOps.d 40 (some 0) (i := 4) rfl rfl rfl rfl rfl (op_load_m (i := 0) rfl ta_24 rfl rfl rfl rfl ⟨rfl, rfl⟩) ?_) | (refine EOps.d 40 (some 1) (i := 4) rfl rfl rfl rfl rfl (op_load_m (i := 0) rfl ta_24 rfl rfl rfl rfl ⟨rfl, rfl⟩) ?_) | (refine EOps.d 40 (some 2) (i := 4) rfl rfl rfl rfl rfl (op_load_m (i := 0) rfl ta_24 rfl rfl rfl rfl ⟨rfl, rfl⟩) ?_) | (refine EOps.d 40 (some 3) (i := 4) rfl rfl rfl rfl rfl (op_load_m (i := 0) rfl ta_24 rfl rfl rfl rfl ⟨rfl, rfl⟩) ?_) | (refine EOps.d 40 (some 4) (i := 4) rfl rfl rfl rfl rfl (op_load_m (i := 0) rfl ta_24 rfl rfl rfl rfl ⟨rfl, rfl⟩) ?_) | (refine EOps.d 40 (some 5) (i := 4) rfl rfl rfl rfl rfl (op_load_m (i := 0) rfl ta_24 rfl rfl rfl rfl ⟨rfl, rfl⟩) ?_) | (refine EOps.d 40 (none) (i := 4) rfl rfl rfl rfl rfl (op_load_c rfl ta_24 rfl rfl rfl ⟨rfl, rfl⟩) ?_)
        first | (refine EOps.d 41 (none) (i := 5) rfl rfl rfl rfl rfl (op_fieldAddr_m rfl tf_24_3 rfl ⟨rfl, rfl⟩) ?_) | (refine EOps.d 41 (none) (i := 5) rfl rfl rfl rfl rfl (op_fieldAddr_c rfl tf_24_3 rfl rfl ⟨rfl, rfl⟩) ?_)
        first | (refine EOps.d 42 (some 0) (i := 6) rfl rfl rfl rfl rfl (op_load_m1 (i := 0) rfl ta_22 rfl rfl rfl ⟨rfl, rfl⟩) ?_) | (refine EOps.d 42 (some 1) (i := 6) rfl rfl rfl rfl rfl (op_load_m1 (i := 0) rfl ta_22 rfl rfl rfl ⟨rfl, rfl⟩) ?_) | (refine EOps.d 42 (some 2) (i := 6) rfl rfl rfl rfl rfl (op_load_m1 (i := 0) rfl ta_22 rfl rfl rfl ⟨rfl, rfl⟩) ?_) | (refine EOps.d 42 (some 3) (i := 6) rfl rfl rfl rfl rfl (op_load_m1 (i := 0) rfl ta_22 rfl rfl rfl ⟨rfl, rfl⟩) ?_) | (refine EOps.d 42 (some 4) (i := 6) rfl rfl rfl rfl rfl (op_load_m1 (i := 0) rfl ta_22 rfl rfl rfl ⟨rfl, rfl⟩) ?_) | (refine EOps.d 42 (some 5) (i := 6) rfl rfl rfl rfl rfl (op_load_m1 (i := 0) rfl ta_22 rfl rfl rfl ⟨rfl, rfl⟩) ?_) | (refine EOps.d 42 (none) (i := 6) rfl rfl rfl rfl rfl (op_load_c1 rfl ta_22 rfl rfl ⟨rfl, rfl⟩) ?_)
        refine EOps.d 43 (none) (i := 7) rfl rfl rfl rfl rfl (op_move rfl rfl ⟨rfl, rfl⟩) ?_
        first | (refine EOps.d 44 (none) (i := 8) rfl rfl rfl rfl rfl (op_index rfl te_22 rfl (.seq _ _) rfl rfl (by assumption) ⟨rfl, rfl⟩) ?_) | (refine EOps.d 44 (none) (i := 8) rfl rfl rfl rfl rfl (op_index (i := 0) rfl te_22 rfl (.seq _ _) rfl rfl (by first | rfl | assumption) ⟨rfl, rfl⟩) ?_) | (refine EOps.d 44 (none) (i := 8) rfl rfl rfl rfl rfl (op_index (i := 1) rfl te_22 rfl (.seq _ _) rfl rfl (by first | rfl | assumption) ⟨rfl, rfl⟩) ?_) | (refine EOps.d 44 (none) (i := 8) rfl rfl rfl rfl rfl (op_index rfl te_22 rfl (.own _ _ _) rfl rfl (by assumption) ⟨rfl, rfl⟩) ?_) | (refine EOps.d 44 (none) (i := 8) rfl rfl rfl rfl rfl (op_index (i := 0) rfl te_22 rfl (.own _ _ _) rfl rfl (by first | rfl | assumption) ⟨rfl, rfl⟩) ?_) | (refine EOps.d 44 (none) (i := 8) rfl rfl rfl rfl rfl (op_index (i := 1) rfl te_22 rfl (.own _ _ _) rfl rfl (by first | rfl | assumption) ⟨rfl, rfl⟩) ?_) | (refine EOps.d 44 (none) (i := 8) rfl rfl rfl rfl rfl (op_index_arr rfl te_22 rfl rfl rfl (by omega) ⟨rfl, rfl⟩) ?_)
        first | (refine EOps.d 45 (some 0) (i := 9) rfl rfl rfl rfl rfl (op_load_m (i := 0) rfl ta_24 rfl rfl rfl rfl ⟨rfl, rfl⟩) ?_) | (refine EOps.d 45 (some 1) (i := 9) rfl rfl rfl rfl rfl (op_load_m (i := 0) rfl ta_24 rfl rfl rfl rfl ⟨rfl, rfl⟩) ?_) | (refine EOps.d 45 (some 2) (i := 9) rfl rfl rfl rfl rfl (op_load_m (i := 0) rfl ta_24 rfl rfl rfl rfl ⟨rfl, rfl⟩) ?_) | (refine EOps.d 45 (some 3) (i := 9) rfl rfl rfl rfl rfl (op_load_m (i := 0) rfl ta_24 rfl rfl rfl rfl ⟨rfl, rfl⟩) ?_) | (refine EOps.d 45 (some 4) (i := 9) rfl rfl rfl rfl rfl (op_load_m (i := 0) rfl ta_24 rfl rfl rfl rfl ⟨rfl, rfl⟩) ?_) | (refine EOps.d 45 (some 5) (i := 9) rfl rfl rfl rfl rfl (op_load_m (i := 0) rfl ta_24 rfl rfl rfl rfl ⟨rfl, rfl⟩) ?_) | (refine EOps.d 45 (none) (i := 9) rfl rfl rfl rfl rfl (op_load_c rfl ta_24 rfl rfl rfl ⟨rfl, rfl⟩) ?_)
        refine EOps.d 46 (none) (i := 10) rfl rfl rfl rfl rfl (op_move rfl rfl ⟨rfl, rfl⟩) ?_
        refine EOps.d 47 (none) (i := 11) rfl rfl rfl rfl rfl (op_callp (xs := [.tmp 40, .tmp 45, .tmp 46]) rfl rfl (H) (by first | exact Les.refl _ | (repeat' (first | exact Les.refl _ | refine Les.cons ?_ ?_ | exact Le.refl _ | exact Le.own _ _ _ | exact Le.nil _ | refine Le.agg ?_))) ⟨rfl, rfl⟩) ?_
        refine EOps.d 35 (none) (i := 12) rfl rfl rfl rfl rfl (op_move rfl rfl ⟨rfl, rfl⟩) ?_
        refine EOps.d 48 (none) (i := 13) rfl rfl rfl rfl rfl (op_extract rfl rfl rfl ⟨rfl, rfl⟩) ?_
        refine EOps.d 49 (none) (i := 14) rfl rfl rfl rfl rfl (op_extract rfl rfl rfl ⟨rfl, rfl⟩) ?_
        refine EOps.nw (i := 15) rfl rfl rfl (op_alloc rfl tz_24 rfl (fun b9 => ⟨_, rfl, ?_⟩))
        first | (refine EOps.w 0 (i := 16) rfl rfl rfl rfl rfl (op_store (i := 0) rfl ts_24 rfl rfl rfl rfl rfl (Nat.le_of_ble_eq_true rfl) rfl ⟨_, rfl, ?_⟩)) | (refine EOps.w 1 (i := 16) rfl rfl rfl rfl rfl (op_store (i := 0) rfl ts_24 rfl rfl rfl rfl rfl (Nat.le_of_ble_eq_true rfl) rfl ⟨_, rfl, ?_⟩)) | (refine EOps.w 2 (i := 16) rfl rfl rfl rfl rfl (op_store (i := 0) rfl ts_24 rfl rfl rfl rfl rfl (Nat.le_of_ble_eq_true rfl) rfl ⟨_, rfl, ?_⟩)) | (refine EOps.w 3 (i := 16) rfl rfl rfl rfl rfl (op_store (i := 0) rfl ts_24 rfl rfl rfl rfl rfl (Nat.le_of_ble_eq_true rfl) rfl ⟨_, rfl, ?_⟩)) | (refine EOps.w 4 (i := 16) rfl rfl rfl rfl rfl (op_store (i := 0) rfl ts_24 rfl rfl rfl rfl rfl (Nat.le_of_ble_eq_true rfl) rfl ⟨_, rfl, ?_⟩)) | (refine EOps.w 5 (i := 16) rfl rfl rfl rfl rfl (op_store (i := 0) rfl ts_24 rfl rfl rfl rfl rfl (Nat.le_of_ble_eq_true rfl) rfl ⟨_, rfl, ?_⟩))
        refine EOps.d 10 (none) (i := 17) rfl rfl rfl rfl rfl (op_assign rfl rfl ⟨rfl, rfl⟩) ?_
        show AGo _ _ _ _ _ _
        refine go_code ?_
        refine c_seq ?_
        refine c_region ?_
        refine AOps.st 50 rfl rfl rfl (op_move rfl rfl ?_)
        refine AOps.nil ?_
        refine go_code ?_
        rcases bool_split h49 with ⟨rfl, g49⟩ | ⟨rfl, g49⟩
        · refine c_cond_f rfl ?_
          refine c_skip ?_
          refine go_blk ?_
          refine go_code ?_
          refine c_region ?_
          refine AOps.st 33 rfl rfl rfl (op_move rfl rfl ?_)
          first | (refine AOps.st 34 rfl rfl rfl (op_add rfl rfl rfl (IntWalk.i64_in _ (by omega)) ?_)) | (refine AOps.st 34 rfl rfl rfl (op_add rfl rfl rfl rfl ?_))
          refine AOps.st 8 rfl rfl rfl (op_assign rfl rfl ?_)
          refine AOps.nil ?_
          refine go_lp ?_
          obtain rfl : r = none := by simpa using g49
          exact ⟨i + 1, ⟨by omega, by omega, hp⟩, by simp; omega, (by repeat' (first | exact SLe.nil _ | refine SLe.cons rfl ?_ ?_ | exact Le.refl _ | exact Le.own _ _ _ | exact Le.nil _)), (by first | exact MLe.none _ | exact MLe.refl _ | (repeat' (first | exact MLe.nil | exact MLe.refl _ | refine MLe.cons _ ?_ | refine MLe.drop _ ?_)))⟩
        · refine c_cond_t rfl ?_
          refine c_seq ?_
          refine c_region ?_
          first | (refine AOps.st 51 rfl rfl rfl (op_load_m (i := 0) rfl ta_24 rfl rfl rfl rfl ?_)) | (refine AOps.st 51 rfl rfl rfl (op_load_m (i := 1) rfl ta_24 rfl rfl rfl rfl ?_)) | (refine AOps.st 51 rfl rfl rfl (op_load_m (i := 2) rfl ta_24 rfl rfl rfl rfl ?_)) | (refine AOps.st 51 rfl rfl rfl (op_load_m (i := 3) rfl ta_24 rfl rfl rfl rfl ?_)) | (refine AOps.st 51 rfl rfl rfl (op_load_m (i := 4) rfl ta_24 rfl rfl rfl rfl ?_)) | (refine AOps.st 51 rfl rfl rfl (op_load_m (i := 5) rfl ta_24 rfl rfl rfl rfl ?_)) | (refine AOps.st 51 rfl rfl rfl (op_load_c rfl ta_24 rfl rfl rfl ?_))
          first | (refine AOps.st0 rfl rfl (op_store (i := 0) rfl ts_24 rfl rfl rfl rfl rfl (Nat.le_of_ble_eq_true rfl) rfl ?_)) | (refine AOps.st0 rfl rfl (op_store (i := 1) rfl ts_24 rfl rfl rfl rfl rfl (Nat.le_of_ble_eq_true rfl) rfl ?_)) | (refine AOps.st0 rfl rfl (op_store (i := 2) rfl ts_24 rfl rfl rfl rfl rfl (Nat.le_of_ble_eq_true rfl) rfl ?_)) | (refine AOps.st0 rfl rfl (op_store (i := 3) rfl ts_24 rfl rfl rfl rfl rfl (Nat.le_of_ble_eq_true rfl) rfl ?_)) | (refine AOps.st0 rfl rfl (op_store (i := 4) rfl ts_24 rfl rfl rfl rfl rfl (Nat.le_of_ble_eq_true rfl) rfl ?_)) | (refine AOps.st0 rfl rfl (op_store (i := 5) rfl ts_24 rfl rfl rfl rfl rfl (Nat.le_of_ble_eq_true rfl) rfl ?_))
          refine AOps.st 7 rfl rfl rfl (op_assign rfl rfl ?_)
          refine AOps.nil ?_
          refine go_code ?_
          refine c_ret ?_
          obtain ⟨y, rfl⟩ := Option.isSome_iff_exists.1 g49
          simp only [Option.getD_some] at hz
          subst hz
          rw [← hp]
          exact out_ct (i := 0) rfl rfl rfl rfl ta_24 rfl (by repeat' (first | exact Le.refl _ | exact Le.own _ _ _ | exact Le.nil _ | refine Le.agg ?_ | refine Le.tup ?_ | exact Les.refl _ | refine Les.cons ?_ ?_)) (by first | exact MLe.none _ | exact MLe.refl _ | (repeat' (first | exact MLe.nil | exact MLe.refl _ | refine MLe.cons _ ?_ | refine MLe.drop _ ?_))) ⟨rfl, rfl⟩
    · refine c_cond_t rfl ?_
      refine c_seq ?_
      refine c_region ?_
      first | (refine AOps.st 20 rfl rfl rfl (op_load_m (i := 0) rfl ta_24 rfl rfl rfl rfl ?_)) | (refine AOps.st 20 rfl rfl rfl (op_load_m (i := 1) rfl ta_24 rfl rfl rfl rfl ?_)) | (refine AOps.st 20 rfl rfl rfl (op_load_m (i := 2) rfl ta_24 rfl rfl rfl rfl ?_)) | (refine AOps.st 20 rfl rfl rfl (op_load_m (i := 3) rfl ta_24 rfl rfl rfl rfl ?_)) | (refine AOps.st 20 rfl rfl rfl (op_load_m (i := 4) rfl ta_24 rfl rfl rfl rfl ?_)) | (refine AOps.st 20 rfl rfl rfl (op_load_m (i := 5) rfl ta_24 rfl rfl rfl rfl ?_)) | (refine AOps.st 20 rfl rfl rfl (op_load_c rfl ta_24 rfl rfl rfl ?_))
      first | (refine AOps.st0 rfl rfl (op_store (i := 0) rfl ts_24 rfl rfl rfl rfl rfl (Nat.le_of_ble_eq_true rfl) rfl ?_)) | (refine AOps.st0 rfl rfl (op_store (i := 1) rfl ts_24 rfl rfl rfl rfl rfl (Nat.le_of_ble_eq_true rfl) rfl ?_)) | (refine AOps.st0 rfl rfl (op_store (i := 2) rfl ts_24 rfl rfl rfl rfl rfl (Nat.le_of_ble_eq_true rfl) rfl ?_)) | (refine AOps.st0 rfl rfl (op_store (i := 3) rfl ts_24 rfl rfl rfl rfl rfl (Nat.le_of_ble_eq_true rfl) rfl ?_)) | (refine AOps.st0 rfl rfl (op_store (i := 4) rfl ts_24 rfl rfl rfl rfl rfl (Nat.le_of_ble_eq_true rfl) rfl ?_)) | (refine AOps.st0 rfl rfl (op_store (i := 5) rfl ts_24 rfl rfl rfl rfl rfl (Nat.le_of_ble_eq_true rfl) rfl ?_))
      refine AOps.st 7 rfl rfl rfl (op_assign rfl rfl ?_)
      refine AOps.nil ?_
      refine go_code ?_
      refine c_ret ?_
      have hR : Ty.part s (.mk k1 s1 n1 ks1) (.mk k2 s2 n2 ks2) = some (.mk k2 s2 n2 ks2) := by rw [Ty.part, if_pos g19]
      rw [hR]
      exact out_ct (i := 0) rfl rfl rfl rfl ta_24 rfl (by repeat' (first | exact Le.refl _ | exact Le.own _ _ _ | exact Le.nil _ | refine Le.agg ?_ | refine Le.tup ?_ | exact Les.refl _ | refine Les.cons ?_ ?_)) (by first | exact MLe.none _ | exact MLe.refl _ | (repeat' (first | exact MLe.nil | exact MLe.refl _ | refine MLe.cons _ ?_ | refine MLe.drop _ ?_))) ⟨rfl, rfl⟩
set_option maxRecDepth 100000 in
theorem rMatch_c (a b : Ty) (hv : a.VarOk) (ha : a.size ≤ 1000000) : ACall Try.prog 15 [.agg a.cells, .agg b.cells] [] (fun v M' => [] = M' ∧ ((∃ st, mt ([], []) a b = some st ∧ v = .tup [.seq 1 (strs st.1), .seq 4 (Ty.cellss st.2), .val (.bool true)]) ∨ (mt ([], []) a b = none ∧ v = .tup [.seq 1 (strs []), .seq 4 (Ty.cellss []), .val (.bool false)]))) := by
  have HV := (rVars_c a ha).pure
  have HP := fun (x : ByteArray) => part_c x a.size a b (Nat.le_refl _) ha
  have HPut := fun (h : a.vars.length ≤ 1000000) (us : List Ty) => rPut_c a.vars h us a.size a (Nat.le_refl _) ha
  have HY := fun st => mt_yes (b := b) (st := st) hv
  have HB := fun us => mt_back (b := b) (us := us) hv
  have hvl : a.vars.length ≤ 1000000 := by
    have : ∀ (l : List Ty) (acc : List ByteArray), (l.foldl addVar acc).length ≤ acc.length + l.length := by
      intro l
      induction l with
      | nil => intro acc; simp
      | cons x l ih => intro acc; rw [List.foldl_cons]; have := ih (addVar acc x); have := addVar_len acc x; simp; omega
    have := this a.all []
    rw [Ty.all_len] at this
    simp at this
    exact Nat.le_trans this ha
  have hlv := strs_len a.vars
  generalize a.vars = vs at *
  generalize hm : mt ([], []) a b = r at *
  have hS := SameType_c
  generalize hpt : (fun us => Ty.turn (putO vs us) a) = pt at *
  have hpt' : ∀ us, Ty.turn (putO vs us) a = pt us := fun us => by rw [← hpt]
  have HY' : ∀ st, r = some st → st.1 = vs ∧ pt st.2 = b ∧ st.2.length = st.1.length ∧ ∀ (i : Nat) (s : ByteArray), st.1[i]? = some s → ∃ y, Ty.part s a b = some y ∧ st.2[i]? = some y := fun st e => by
    obtain ⟨q1, q2, q4, q3⟩ := HY st e
    exact ⟨q1, by rw [← hpt', ← q1]; exact q2, q4, q3⟩
  have HB' : ∀ us, us.length = vs.length → pt us = b → r = some (vs, us) := fun us h1 h2 => HB us h1 (by rw [hpt']; exact h2)
  simp only [hpt'] at HPut
  generalize hpp : (fun s => Ty.part s a b) = pp at *
  have hpp' : ∀ s, Ty.part s a b = pp s := fun us => by rw [← hpp]
  simp only [hpp'] at HP HY'
  clear HY HB hpt hpt' hpp hpp' hm hv ha
  obtain ⟨k1, s1, n1, ks1⟩ := a
  obtain ⟨k2, s2, n2, ks2⟩ := b
  refine ACall.enter Try.func15 rfl (by kernel_rfl) rfl (Nat.le_of_ble_eq_true rfl) ?_
  refine c_start ?_
  refine c_seq ?_
  refine c_region ?_
  refine AOps.st 2 rfl rfl rfl (op_box rfl rfl rfl ?_); intro b2
  refine AOps.st 3 rfl rfl rfl (op_box rfl rfl rfl ?_); intro b3
  refine AOps.st 4 rfl rfl rfl (op_assign rfl rfl ?_)
  refine AOps.st 5 rfl rfl rfl (op_assign rfl rfl ?_)
  refine AOps.st 6 rfl rfl rfl (op_assign rfl rfl ?_)
  refine AOps.nil ?_
  refine go_code ?_
  refine c_seq ?_
  refine c_region ?_
  first | (refine AOps.st 12 rfl rfl rfl (op_load_m (i := 0) rfl ta_24 rfl rfl rfl rfl ?_)) | (refine AOps.st 12 rfl rfl rfl (op_load_m (i := 1) rfl ta_24 rfl rfl rfl rfl ?_)) | (refine AOps.st 12 rfl rfl rfl (op_load_m (i := 2) rfl ta_24 rfl rfl rfl rfl ?_)) | (refine AOps.st 12 rfl rfl rfl (op_load_m (i := 3) rfl ta_24 rfl rfl rfl rfl ?_)) | (refine AOps.st 12 rfl rfl rfl (op_load_m (i := 4) rfl ta_24 rfl rfl rfl rfl ?_)) | (refine AOps.st 12 rfl rfl rfl (op_load_m (i := 5) rfl ta_24 rfl rfl rfl rfl ?_)) | (refine AOps.st 12 rfl rfl rfl (op_load_c rfl ta_24 rfl rfl rfl ?_))
  refine AOps.st 13 rfl rfl rfl (op_callp (xs := [.tmp 12]) rfl rfl (HV) (by first | exact Les.refl _ | (repeat' (first | exact Les.refl _ | refine Les.cons ?_ ?_ | exact Le.refl _ | exact Le.own _ _ _ | exact Le.nil _ | refine Le.agg ?_))) ?_)
  refine AOps.st 7 rfl rfl rfl (op_assign rfl rfl ?_)
  refine AOps.nil ?_
  refine go_code ?_
  refine c_seq ?_
  refine c_region ?_
  refine AOps.st 8 rfl rfl rfl (op_assign rfl rfl ?_)
  refine AOps.nil ?_
  refine go_code ?_
  refine c_seq ?_
  refine c_seq ?_
  refine c_region ?_
  refine AOps.st 9 rfl rfl rfl (op_assign rfl rfl ?_)
  refine AOps.nil ?_
  refine go_code ?_
  refine c_block ?_
  refine ACode.ownNil (t := 8) 24 4 rfl ?_
  refine c_loop (σ := Nat × Value × List Ty) (fun zz => match zz with | (i, u, us) => [(2, .ptr b2 0), (3, .ptr b3 0), (7, .seq 1 (strs vs)), (8, .own u 4 (Ty.cellss us)), (9, .val (.int .i64 i))]) (fun zz => match zz with | (i, u, us) => [.own 24 4 u, .loc b3 (Ty.cells (.mk k2 s2 n2 ks2)), .loc b2 (Ty.cells (.mk k1 s1 n1 ks1))]) (fun zz => match zz with | (i, u, us) => i ≤ vs.length ∧ us.length = i ∧ ∀ (j : Nat) (x : ByteArray), j < i → vs[j]? = some x → ∃ y, pp x = some y ∧ us[j]? = some y) (fun zz => match zz with | (i, u, us) => vs.length - i) ((0, .slice none 0 0, [])) ?_ ?_ ?_ ?_
  · exact ⟨by simp, rfl, fun j x h => (by simp at h)⟩
  · exact (by repeat' (first | exact SLe.nil _ | refine SLe.cons rfl ?_ ?_ | exact Le.refl _ | exact Le.own _ _ _ | exact Le.nil _))
  · exact (by first | exact MLe.none _ | exact MLe.refl _ | (repeat' (first | exact MLe.nil | exact MLe.refl _ | refine MLe.cons _ ?_ | refine MLe.drop _ ?_)))
  rintro ⟨i, u, us⟩ hI
  try dsimp only at hI ⊢
  obtain ⟨hi, hul, hu⟩ := hI
  refine c_seq ?_
  refine c_seq ?_
  refine c_region ?_
  refine AOps.st 14 rfl rfl rfl (op_move rfl rfl ?_)
  refine AOps.st 15 rfl rfl rfl (op_move rfl rfl ?_)
  first | (refine AOps.st 16 rfl rfl rfl (op_len rfl tu_27 rfl (.seq _ _) (fun n16 => ?_))) | (refine AOps.st 16 rfl rfl rfl (op_len rfl tu_27 rfl (.own _ _ _) (fun n16 => ?_))) | (refine AOps.st 16 rfl rfl rfl (op_len rfl tu_27 rfl (.nil 0) (fun n16 => ?_))) | (refine AOps.st 16 rfl rfl rfl (op_len_arr rfl tu_27 rfl ?_))
  refine AOps.st 17 rfl rfl rfl (op_lss rfl rfl rfl ?_); intro c17 h17
  refine AOps.nil ?_
  refine go_code ?_
  rcases bool_split h17 with ⟨rfl, g17⟩ | ⟨rfl, g17⟩
  · refine c_cond_f rfl ?_
    refine c_exit ?_
    refine x_code ?_
    refine x_lp ?_
    refine x_here ?_
    refine go_code ?_
    refine c_seq ?_
    refine c_seq ?_
    obtain rfl : i = vs.length := by omega
    have hPut := HPut hvl us
    have hSm := hS (pt us) (.mk k2 s2 n2 ks2)
    have hEq : ∀ st, r = some st → st = (vs, us) := fun st e => by
      obtain ⟨e1, e2, e4, e3⟩ := HY' st e
      obtain ⟨v1, v2⟩ := st
      simp only at e1 e2 e3 e4
      subst e1
      have : v2 = us := by
        apply List.ext_getElem?
        intro j
        rcases Nat.lt_or_ge j v1.length with q | q
        · obtain ⟨x, hx⟩ := get_some q
          obtain ⟨y, hy, hy2⟩ := e3 j x hx
          obtain ⟨z, hz, hz2⟩ := hu j x q hx
          rw [hy] at hz; cases hz
          rw [hy2, hz2]
        · rw [List.getElem?_eq_none (by omega), List.getElem?_eq_none (by omega)]
      rw [this]
    generalize hp : pt us = p at hPut hSm
    obtain ⟨pk, px, pn, pks⟩ := p
    refine c_drawn tmix rfl ?_
    refine DOps.st 36 rfl rfl (op_move rfl rfl ⟨rfl, rfl⟩) ?_
    refine DOps.st 37 rfl rfl (op_move rfl rfl ⟨rfl, rfl⟩) ?_
    first | (refine DOps.st 38 rfl rfl (op_load_m (i := 0) rfl ta_24 rfl rfl rfl rfl ⟨rfl, rfl⟩) ?_) | (refine DOps.st 38 rfl rfl (op_load_m (i := 1) rfl ta_24 rfl rfl rfl rfl ⟨rfl, rfl⟩) ?_) | (refine DOps.st 38 rfl rfl (op_load_m (i := 2) rfl ta_24 rfl rfl rfl rfl ⟨rfl, rfl⟩) ?_) | (refine DOps.st 38 rfl rfl (op_load_m (i := 3) rfl ta_24 rfl rfl rfl rfl ⟨rfl, rfl⟩) ?_) | (refine DOps.st 38 rfl rfl (op_load_m (i := 4) rfl ta_24 rfl rfl rfl rfl ⟨rfl, rfl⟩) ?_) | (refine DOps.st 38 rfl rfl (op_load_m (i := 5) rfl ta_24 rfl rfl rfl rfl ⟨rfl, rfl⟩) ?_) | (refine DOps.st 38 rfl rfl (op_load_c rfl ta_24 rfl rfl rfl ⟨rfl, rfl⟩) ?_)
    refine DOps.st 39 rfl rfl (op_callp (xs := [.tmp 36, .tmp 37, .tmp 38]) rfl rfl (hPut) (by first | exact Les.refl _ | (repeat' (first | exact Les.refl _ | refine Les.cons ?_ ?_ | exact Le.refl _ | exact Le.own _ _ _ | exact Le.nil _ | refine Le.agg ?_))) ⟨rfl, rfl⟩) ?_
    first | (refine DOps.st 40 rfl rfl (op_load_m (i := 0) rfl ta_24 rfl rfl rfl rfl ⟨rfl, rfl⟩) ?_) | (refine DOps.st 40 rfl rfl (op_load_m (i := 1) rfl ta_24 rfl rfl rfl rfl ⟨rfl, rfl⟩) ?_) | (refine DOps.st 40 rfl rfl (op_load_m (i := 2) rfl ta_24 rfl rfl rfl rfl ⟨rfl, rfl⟩) ?_) | (refine DOps.st 40 rfl rfl (op_load_m (i := 3) rfl ta_24 rfl rfl rfl rfl ⟨rfl, rfl⟩) ?_) | (refine DOps.st 40 rfl rfl (op_load_m (i := 4) rfl ta_24 rfl rfl rfl rfl ⟨rfl, rfl⟩) ?_) | (refine DOps.st 40 rfl rfl (op_load_m (i := 5) rfl ta_24 rfl rfl rfl rfl ⟨rfl, rfl⟩) ?_) | (refine DOps.st 40 rfl rfl (op_load_c rfl ta_24 rfl rfl rfl ⟨rfl, rfl⟩) ?_)
    refine DOps.cm 41 rfl rfl (fun _ q => op_callb (xs := [.tmp 39, .tmp 40]) rfl rfl (hSm) (by first | exact Les.refl _ | (repeat' (first | exact Les.refl _ | refine Les.cons ?_ ?_ | exact Le.refl _ | exact Le.own _ _ _ | exact Le.nil _ | refine Le.agg ?_))) q) ?_; intro c41 h41
    refine DOps.cm 42 rfl rfl (fun _ q => op_notc rfl rfl q) ?_; intro c42 h42
    try replace h42 := nott h42 h41
    show AGo _ _ _ _ _ _
    refine go_code ?_
    rcases bool_split h42 with ⟨rfl, g42⟩ | ⟨rfl, g42⟩
    · refine c_cond_f rfl ?_
      refine c_skip ?_
      refine go_code ?_
      refine c_seq ?_
      refine c_region ?_
      refine AOps.st 43 rfl rfl rfl (op_move rfl rfl ?_)
      refine AOps.st 44 rfl rfl rfl (op_move rfl rfl ?_)
      refine AOps.st 4 rfl rfl rfl (op_assign rfl rfl ?_)
      refine AOps.st 5 rfl rfl rfl (op_assign rfl rfl ?_)
      refine AOps.st 6 rfl rfl rfl (op_assign rfl rfl ?_)
      refine AOps.nil ?_
      refine go_code ?_
      refine c_ret ?_
      exact out_ttt rfl rfl rfl rfl (Le.tup (Les.cons (Le.refl _) (Les.cons (Le.own _ _ _) (Les.refl _)))) (MLe.none _) ⟨rfl, .inl ⟨(vs, us), HB' us hul (hp.trans (Classical.not_not.1 g42)), rfl⟩⟩
    · refine c_cond_t rfl ?_
      refine c_seq ?_
      refine c_region ?_
      refine AOps.st 4 rfl rfl rfl (op_assign rfl rfl ?_)
      refine AOps.st 5 rfl rfl rfl (op_assign rfl rfl ?_)
      refine AOps.st 6 rfl rfl rfl (op_assign rfl rfl ?_)
      refine AOps.nil ?_
      refine go_code ?_
      refine c_ret ?_
      have hN : r = none := by
        cases hr2 : r with
        | none => rfl
        | some st =>
          obtain ⟨_, e2, _, _⟩ := HY' st hr2
          have := hEq st hr2
          subst this
          exact absurd (hp.symm.trans e2) g42
      exact out_ttt rfl rfl rfl rfl (Le.tup (Les.cons (Le.nil _) (Les.cons (Le.nil _) (Les.refl _)))) (MLe.none _) ⟨rfl, .inr ⟨hN, rfl⟩⟩
  · refine c_cond_t rfl ?_
    refine c_skip ?_
    refine go_code ?_
    refine c_seq ?_
    refine c_block ?_
    refine c_seq ?_
    obtain ⟨x, hx⟩ := get_some (l := vs) (i := i) (by omega)
    have hcx := strs_get hx
    have H := HP x
    generalize hr : pp x = q at H
    generalize hz : q.getD zT = z at H
    generalize hc : q.isSome = c30 at H
    have h30 : c30 = true ↔ q.isSome = true := by rw [hc]
    obtain ⟨zk, zs, zn, zks⟩ := z
    refine c_drawnE [0, 1, 2, 3, 4, 5, 6, 7, 8, 9, 10, 11, 12] [10, 11] [[], [], [], [], [2, 3], [2, 3, 4], [0, 1, 2, 3, 4, 5], [0, 1, 2, 3, 4, 5, 6], [0, 1, 2, 3, 4, 5, 6, 7], [0, 1, 2, 3, 4, 5, 6, 7], [], [0, 1, 2, 3, 4, 5, 6, 7, 8, 10], [0, 1, 2, 3, 4, 5, 6, 7, 8, 9, 10, 11]] tmix rfl ?_
    first | (refine EOps.d 21 (some 0) (i := 0) rfl rfl rfl rfl rfl (op_load_m (i := 0) rfl ta_24 rfl rfl rfl rfl ⟨rfl, rfl⟩) ?_) | (refine EOps.d 21 (some 1) (i := 0) rfl rfl rfl rfl rfl (op_load_m (i := 0) rfl ta_24 rfl rfl rfl rfl ⟨rfl, rfl⟩) ?_) | (refine EOps.d 21 (some 2) (i := 0) rfl rfl rfl rfl rfl (op_load_m (i := 0) rfl ta_24 rfl rfl rfl rfl ⟨rfl, rfl⟩) ?_) | (refine EOps.d 21 (some 3) (i := 0) rfl rfl rfl rfl rfl (op_load_m (i := 0) rfl ta_24 rfl rfl rfl rfl ⟨rfl, rfl⟩) ?_) | (refine EOps.d 21 (some 4) (i := 0) rfl rfl rfl rfl rfl (op_load_m (i := 0) rfl ta_24 rfl rfl rfl rfl ⟨rfl, rfl⟩) ?_) | (refine EOps.d 21 (some 5) (i := 0) rfl rfl rfl rfl rfl (op_load_m (i := 0) rfl ta_24 rfl rfl rfl rfl ⟨rfl, rfl⟩) ?_) | (refine EOps.d 21 (none) (i := 0) rfl rfl rfl rfl rfl (op_load_c rfl ta_24 rfl rfl rfl ⟨rfl, rfl⟩) ?_)
    first | (refine EOps.d 22 (some 0) (i := 1) rfl rfl rfl rfl rfl (op_load_m (i := 0) rfl ta_24 rfl rfl rfl rfl ⟨rfl, rfl⟩) ?_) | (refine EOps.d 22 (some 1) (i := 1) rfl rfl rfl rfl rfl (op_load_m (i := 0) rfl ta_24 rfl rfl rfl rfl ⟨rfl, rfl⟩) ?_) | (refine EOps.d 22 (some 2) (i := 1) rfl rfl rfl rfl rfl (op_load_m (i := 0) rfl ta_24 rfl rfl rfl rfl ⟨rfl, rfl⟩) ?_) | (refine EOps.d 22 (some 3) (i := 1) rfl rfl rfl rfl rfl (op_load_m (i := 0) rfl ta_24 rfl rfl rfl rfl ⟨rfl, rfl⟩) ?_) | (refine EOps.d 22 (some 4) (i := 1) rfl rfl rfl rfl rfl (op_load_m (i := 0) rfl ta_24 rfl rfl rfl rfl ⟨rfl, rfl⟩) ?_) | (refine EOps.d 22 (some 5) (i := 1) rfl rfl rfl rfl rfl (op_load_m (i := 0) rfl ta_24 rfl rfl rfl rfl ⟨rfl, rfl⟩) ?_) | (refine EOps.d 22 (none) (i := 1) rfl rfl rfl rfl rfl (op_load_c rfl ta_24 rfl rfl rfl ⟨rfl, rfl⟩) ?_)
    refine EOps.d 23 (none) (i := 2) rfl rfl rfl rfl rfl (op_move rfl rfl ⟨rfl, rfl⟩) ?_
    refine EOps.d 24 (none) (i := 3) rfl rfl rfl rfl rfl (op_move rfl rfl ⟨rfl, rfl⟩) ?_
    first | (refine EOps.d 25 (none) (i := 4) rfl rfl rfl rfl rfl (op_index rfl te_27 rfl (.seq _ _) rfl rfl (by assumption) ⟨rfl, rfl⟩) ?_) | (refine EOps.d 25 (none) (i := 4) rfl rfl rfl rfl rfl (op_index (i := 0) rfl te_27 rfl (.seq _ _) rfl rfl (by first | rfl | assumption) ⟨rfl, rfl⟩) ?_) | (refine EOps.d 25 (none) (i := 4) rfl rfl rfl rfl rfl (op_index (i := 1) rfl te_27 rfl (.seq _ _) rfl rfl (by first | rfl | assumption) ⟨rfl, rfl⟩) ?_) | (refine EOps.d 25 (none) (i := 4) rfl rfl rfl rfl rfl (op_index rfl te_27 rfl (.own _ _ _) rfl rfl (by assumption) ⟨rfl, rfl⟩) ?_) | (refine EOps.d 25 (none) (i := 4) rfl rfl rfl rfl rfl (op_index (i := 0) rfl te_27 rfl (.own _ _ _) rfl rfl (by first | rfl | assumption) ⟨rfl, rfl⟩) ?_) | (refine EOps.d 25 (none) (i := 4) rfl rfl rfl rfl rfl (op_index (i := 1) rfl te_27 rfl (.own _ _ _) rfl rfl (by first | rfl | assumption) ⟨rfl, rfl⟩) ?_) | (refine EOps.d 25 (none) (i := 4) rfl rfl rfl rfl rfl (op_index_arr rfl te_27 rfl rfl rfl (by omega) ⟨rfl, rfl⟩) ?_)
    first | (refine EOps.d 26 (some 0) (i := 5) rfl rfl rfl rfl rfl (op_load_m1 (i := 0) rfl ta_9 rfl rfl rfl ⟨rfl, rfl⟩) ?_) | (refine EOps.d 26 (some 1) (i := 5) rfl rfl rfl rfl rfl (op_load_m1 (i := 0) rfl ta_9 rfl rfl rfl ⟨rfl, rfl⟩) ?_) | (refine EOps.d 26 (some 2) (i := 5) rfl rfl rfl rfl rfl (op_load_m1 (i := 0) rfl ta_9 rfl rfl rfl ⟨rfl, rfl⟩) ?_) | (refine EOps.d 26 (some 3) (i := 5) rfl rfl rfl rfl rfl (op_load_m1 (i := 0) rfl ta_9 rfl rfl rfl ⟨rfl, rfl⟩) ?_) | (refine EOps.d 26 (some 4) (i := 5) rfl rfl rfl rfl rfl (op_load_m1 (i := 0) rfl ta_9 rfl rfl rfl ⟨rfl, rfl⟩) ?_) | (refine EOps.d 26 (some 5) (i := 5) rfl rfl rfl rfl rfl (op_load_m1 (i := 0) rfl ta_9 rfl rfl rfl ⟨rfl, rfl⟩) ?_) | (refine EOps.d 26 (none) (i := 5) rfl rfl rfl rfl rfl (op_load_c1 rfl ta_9 rfl rfl ⟨rfl, rfl⟩) ?_)
    refine EOps.d 27 (none) (i := 6) rfl rfl rfl rfl rfl (op_callp (xs := [.tmp 21, .tmp 22, .tmp 26]) rfl rfl (H) (by first | exact Les.refl _ | (repeat' (first | exact Les.refl _ | refine Les.cons ?_ ?_ | exact Le.refl _ | exact Le.own _ _ _ | exact Le.nil _ | refine Le.agg ?_))) ⟨rfl, rfl⟩) ?_
    refine EOps.d 20 (none) (i := 7) rfl rfl rfl rfl rfl (op_move rfl rfl ⟨rfl, rfl⟩) ?_
    refine EOps.d 28 (none) (i := 8) rfl rfl rfl rfl rfl (op_extract rfl rfl rfl ⟨rfl, rfl⟩) ?_
    refine EOps.d 29 (none) (i := 9) rfl rfl rfl rfl rfl (op_extract rfl rfl rfl ⟨rfl, rfl⟩) ?_
    refine EOps.nw (i := 10) rfl rfl rfl (op_alloc rfl tz_24 rfl (fun b10 => ⟨_, rfl, ?_⟩))
    first | (refine EOps.w 0 (i := 11) rfl rfl rfl rfl rfl (op_store (i := 0) rfl ts_24 rfl rfl rfl rfl rfl (Nat.le_of_ble_eq_true rfl) rfl ⟨_, rfl, ?_⟩)) | (refine EOps.w 1 (i := 11) rfl rfl rfl rfl rfl (op_store (i := 0) rfl ts_24 rfl rfl rfl rfl rfl (Nat.le_of_ble_eq_true rfl) rfl ⟨_, rfl, ?_⟩)) | (refine EOps.w 2 (i := 11) rfl rfl rfl rfl rfl (op_store (i := 0) rfl ts_24 rfl rfl rfl rfl rfl (Nat.le_of_ble_eq_true rfl) rfl ⟨_, rfl, ?_⟩)) | (refine EOps.w 3 (i := 11) rfl rfl rfl rfl rfl (op_store (i := 0) rfl ts_24 rfl rfl rfl rfl rfl (Nat.le_of_ble_eq_true rfl) rfl ⟨_, rfl, ?_⟩)) | (refine EOps.w 4 (i := 11) rfl rfl rfl rfl rfl (op_store (i := 0) rfl ts_24 rfl rfl rfl rfl rfl (Nat.le_of_ble_eq_true rfl) rfl ⟨_, rfl, ?_⟩)) | (refine EOps.w 5 (i := 11) rfl rfl rfl rfl rfl (op_store (i := 0) rfl ts_24 rfl rfl rfl rfl rfl (Nat.le_of_ble_eq_true rfl) rfl ⟨_, rfl, ?_⟩))
    refine EOps.d 11 (none) (i := 12) rfl rfl rfl rfl rfl (op_assign rfl rfl ⟨rfl, rfl⟩) ?_
    show AGo _ _ _ _ _ _
    refine go_code ?_
    refine c_seq ?_
    refine c_seq ?_
    refine c_region ?_
    refine AOps.st 30 rfl rfl rfl (op_move rfl rfl ?_)
    refine AOps.st 31 rfl rfl rfl (op_notc rfl rfl ?_); intro c31 h31
    try replace h31 := nott h31 h29
    refine AOps.nil ?_
    refine go_code ?_
    rcases bool_split h31 with ⟨rfl, g31⟩ | ⟨rfl, g31⟩
    · refine c_cond_f rfl ?_
      refine c_skip ?_
      refine go_code ?_
      refine c_region ?_
      refine AOps.st 32 rfl rfl rfl (op_move rfl rfl ?_)
      first | (refine AOps.st 33 rfl rfl rfl (op_load_m (i := 0) rfl ta_24 rfl rfl rfl rfl ?_)) | (refine AOps.st 33 rfl rfl rfl (op_load_m (i := 1) rfl ta_24 rfl rfl rfl rfl ?_)) | (refine AOps.st 33 rfl rfl rfl (op_load_m (i := 2) rfl ta_24 rfl rfl rfl rfl ?_)) | (refine AOps.st 33 rfl rfl rfl (op_load_m (i := 3) rfl ta_24 rfl rfl rfl rfl ?_)) | (refine AOps.st 33 rfl rfl rfl (op_load_m (i := 4) rfl ta_24 rfl rfl rfl rfl ?_)) | (refine AOps.st 33 rfl rfl rfl (op_load_m (i := 5) rfl ta_24 rfl rfl rfl rfl ?_)) | (refine AOps.st 33 rfl rfl rfl (op_load_c rfl ta_24 rfl rfl rfl ?_))
      refine AOps.st 34 rfl rfl rfl (op_buildSlice (xs := [.tmp 33]) el_22 rfl rfl rfl rfl rfl rfl (Nat.le_of_ble_eq_true rfl) ?_)
      first | (refine AOps.st 35 rfl rfl rfl (op_append (i := 0) el_22 rfl rfl rfl rfl (.seq _ _) (by simp [Ty.cellss_len]; omega) ?_)) | (refine AOps.st 35 rfl rfl rfl (op_append (i := 1) el_22 rfl rfl rfl rfl (.seq _ _) (by simp [Ty.cellss_len]; omega) ?_)) | (refine AOps.st 35 rfl rfl rfl (op_append (i := 2) el_22 rfl rfl rfl rfl (.seq _ _) (by simp [Ty.cellss_len]; omega) ?_)) | (refine AOps.st 35 rfl rfl rfl (op_append (i := 3) el_22 rfl rfl rfl rfl (.seq _ _) (by simp [Ty.cellss_len]; omega) ?_)) | (refine AOps.st 35 rfl rfl rfl (op_append (i := 0) el_22 rfl rfl rfl rfl (.own _ _ _) (by simp [Ty.cellss_len]; omega) ?_)) | (refine AOps.st 35 rfl rfl rfl (op_append (i := 1) el_22 rfl rfl rfl rfl (.own _ _ _) (by simp [Ty.cellss_len]; omega) ?_)) | (refine AOps.st 35 rfl rfl rfl (op_append (i := 2) el_22 rfl rfl rfl rfl (.own _ _ _) (by simp [Ty.cellss_len]; omega) ?_)) | (refine AOps.st 35 rfl rfl rfl (op_append (i := 3) el_22 rfl rfl rfl rfl (.own _ _ _) (by simp [Ty.cellss_len]; omega) ?_)) | (refine AOps.st 35 rfl rfl rfl (op_append (i := 0) el_22 rfl rfl rfl rfl (.nil _) (by simp [Ty.cellss_len]; omega) ?_)) | (refine AOps.st 35 rfl rfl rfl (op_append (i := 1) el_22 rfl rfl rfl rfl (.nil _) (by simp [Ty.cellss_len]; omega) ?_)) | (refine AOps.st 35 rfl rfl rfl (op_append (i := 2) el_22 rfl rfl rfl rfl (.nil _) (by simp [Ty.cellss_len]; omega) ?_)) | (refine AOps.st 35 rfl rfl rfl (op_append (i := 3) el_22 rfl rfl rfl rfl (.nil _) (by simp [Ty.cellss_len]; omega) ?_)) | (refine AOps.st 35 rfl rfl rfl (op_append_nil el_22 rfl rfl rfl (.seq _ _) (by simp [Ty.cellss_len]; omega) ?_)) | (refine AOps.st 35 rfl rfl rfl (op_append_nil el_22 rfl rfl rfl (.own _ _ _) (by simp [Ty.cellss_len]; omega) ?_)) | (refine AOps.st 35 rfl rfl rfl (op_append_nil el_22 rfl rfl rfl (.nil _) (by simp [Ty.cellss_len]; omega) ?_))
      intro u35
      refine AOps.st 8 rfl rfl rfl (op_assign rfl rfl ?_)
      refine AOps.nil ?_
      refine go_blk ?_
      refine go_code ?_
      refine c_region ?_
      refine AOps.st 18 rfl rfl rfl (op_move rfl rfl ?_)
      first | (refine AOps.st 19 rfl rfl rfl (op_add rfl rfl rfl (IntWalk.i64_in _ (by omega)) ?_)) | (refine AOps.st 19 rfl rfl rfl (op_add rfl rfl rfl rfl ?_))
      refine AOps.st 9 rfl rfl rfl (op_assign rfl rfl ?_)
      refine AOps.nil ?_
      refine go_lp ?_
      have hq : q = some (.mk zk zs zn zks) := by
        cases hq : q with
        | none => subst hq; simp at hc; exact absurd hc g31
        | some y => subst hq; simp at hz; rw [hz]
      refine ⟨(i + 1, u35, us ++ [.mk zk zs zn zks]), ⟨by simp; omega, by simp; omega, fun j x' hj hx' => ?_⟩, by simp; omega, (by repeat' (first | exact SLe.nil _ | refine SLe.cons rfl ?_ ?_ | exact Le.refl _ | exact Le.own _ _ _ | exact Le.nil _ | (refine Le.own_eq ?_; (rw [Ty.cellss_app]; rfl)) | (refine Le.own_seq ?_; (rw [Ty.cellss_app]; rfl)) | (refine Le.seq_eq ?_; (rw [Ty.cellss_app]; rfl)))), (by first | exact MLe.none _ | exact MLe.refl _ | (repeat' (first | exact MLe.nil | exact MLe.refl _ | refine MLe.cons _ ?_ | refine MLe.drop _ ?_)))⟩
      by_cases e : j = i
      · subst e
        rw [hx] at hx'; cases hx'
        exact ⟨_, hr.trans hq, by rw [← hul]; simp⟩
      · obtain ⟨y, h1, h2⟩ := hu j x' (by simp at hj; omega) hx'
        exact ⟨y, h1, by rw [List.getElem?_append_left (by simp at hj; omega)]; exact h2⟩
    · refine c_cond_t rfl ?_
      refine c_seq ?_
      refine c_region ?_
      refine AOps.st 4 rfl rfl rfl (op_assign rfl rfl ?_)
      refine AOps.st 5 rfl rfl rfl (op_assign rfl rfl ?_)
      refine AOps.st 6 rfl rfl rfl (op_assign rfl rfl ?_)
      refine AOps.nil ?_
      refine go_code ?_
      refine c_ret ?_
      have hq : q = none := by rw [g31] at hc; simpa using hc
      have hN : r = none := by
        cases hr2 : r with
        | none => rfl
        | some st =>
          obtain ⟨e1, _, _, e3⟩ := HY' st hr2
          obtain ⟨y, hy, _⟩ := e3 i x (by rw [e1]; exact hx)
          rw [hr, hq] at hy; cases hy
      exact out_ttt rfl rfl rfl rfl (Le.tup (Les.cons (Le.nil _) (Les.cons (Le.nil _) (Les.refl _)))) (MLe.none _) ⟨rfl, .inr ⟨hN, rfl⟩⟩
end Go.Proofs.Ytjgjnheeohfmmaa
