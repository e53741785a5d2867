/- cognatelaw05.Count, Small -/
import Derived.Test.YtjgjnheeohfmmaaB05z
namespace Go.Proofs.Ytjgjnheeohfmmaa
open Go.RowKit
set_option maxHeartbeats 4000000 in
set_option maxRecDepth 100000 in
theorem Count_c (e : Ex) : ∀ m : Int, e.Lim → 1 ≤ m → m ≤ 2000 → PCall Try.prog 84 [.agg e.cells, .val (.int .i64 m)] (.val (.int .i64 (e.cnt m))) := by
  obtain ⟨k, s, n, ⟨tk, ts, tn, tks⟩, ks, al, bs, p⟩ := e
  intro m hL hm1 hm2
  rw [Ex.Lim] at hL
  obtain ⟨l1, l2, l3, l4⟩ := hL
  have IHk : ∀ x ∈ ks, ∀ m' : Int, 1 ≤ m' → m' ≤ 2000 → PCall Try.prog 84 [.agg x.cells, .val (.int .i64 m')] (.val (.int .i64 (x.cnt m'))) := fun x hx m' h1 h2 => Count_c x m' ((Ex.lims_iff _).1 l2 x hx) h1 h2
  have IHb : ∀ x ∈ bs, ∀ m' : Int, 1 ≤ m' → m' ≤ 2000 → PCall Try.prog 84 [.agg x.e.cells, .val (.int .i64 m')] (.val (.int .i64 (x.e.cnt m'))) := fun x hx m' h1 h2 => Count_c x.e m' (by have := (Bi.lims_iff _).1 l3 x hx; cases x; exact this) h1 h2
  have IHa : ∀ x ∈ al, ∀ m' : Int, 1 ≤ m' → m' ≤ 2000 → PCall Try.prog 84 [.agg x.e.cells, .val (.int .i64 m')] (.val (.int .i64 (x.e.cnt m'))) := fun x hx m' h1 h2 => Count_c x.e m' (by have := (Al.lims_iff _).1 l4 x hx; cases x; exact this.1) h1 h2
  have hlk := Ex.cellss_len ks
  have hlb := Bi.cellss_len bs
  have hla := Al.cellss_len al
  have hlt := Ty.cellss_len tks
  rw [Ty.kn] at l1
  obtain ⟨a1, a2, a3, a4⟩ := Ex.cnts_b ks m (1 + tks.length) l2 hm1 hm2 (by omega) (by omega)
  rw [Ex.cnt, Ty.kn]
  obtain ⟨N1, hN1⟩ : ∃ N1, N1 = Ex.cnts ks m (1 + tks.length) := ⟨_, rfl⟩
  rw [← hN1] at a1 a2 a3 a4 ⊢
  obtain ⟨b1, b2, b3, b4⟩ := Bi.cnts_b bs m N1 l3 hm1 hm2 (by omega) (by omega)
  obtain ⟨N2, hN2⟩ : ∃ N2, N2 = Bi.cnts bs m N1 := ⟨_, rfl⟩
  rw [← hN2] at b1 b2 b3 b4 ⊢
  obtain ⟨N3, hN3⟩ : ∃ N3, N3 = Al.cnts al m N2 := ⟨_, rfl⟩
  rw [← hN3]
  refine ACall.enter Try.func84 rfl (by kernel_rfl) rfl (Nat.le_of_ble_eq_true rfl) ?_
  refine c_start ?_
  refine c_lena (t := 0) (j := 7) rfl rfl (.seq _ _) (fun hmax1 => ?_)
  refine c_lena (t := 0) (j := 8) rfl rfl (.seq _ _) (fun hmax2 => ?_)
  refine c_lena (t := 0) (j := 9) rfl rfl (.seq _ _) (fun hmax3 => ?_)
  refine c_seq ?_
  refine c_region ?_
  refine AOps.st 2 rfl rfl rfl (op_boxc (cs' := [_, _, _, _, _, _, _, _, _, _, _]) rfl rfl rfl rfl ?_)
  refine AOps.st 4 rfl rfl rfl (op_assign rfl rfl ?_)
  refine AOps.nil ?_
  refine go_code ?_
  refine c_seq ?_
  refine c_region ?_
  refine AOps.st 9 rfl rfl rfl (op_fieldAddr_c rfl tf_60_3 rfl rfl ?_)
  refine AOps.st 10 rfl rfl rfl (op_fieldAddr_c rfl tf_24_3 rfl rfl ?_)
  refine AOps.st 11 rfl rfl rfl (op_load_c1 rfl ta_22 rfl rfl ?_)
  refine AOps.st 12 rfl rfl rfl (op_len rfl tu_22 rfl (.seq _ _) (fun n12 => ?_))
  refine AOps.st 13 rfl rfl rfl (op_add rfl rfl rfl (IntWalk.i64_in _ (by omega)) ?_)
  refine AOps.st 5 rfl rfl rfl (op_assign rfl rfl ?_)
  refine AOps.nil ?_
  refine go_code ?_
  refine c_seq ?_
  refine c_seq ?_
  refine c_region ?_
  refine AOps.st 6 rfl rfl rfl (op_assign rfl rfl ?_)
  refine AOps.nil ?_
  refine go_code ?_
  refine c_block ?_
  refine c_loop (σ := Nat × Int) (fun zz => match zz with | (i, c) => [(1, .val (.int .i64 m)), (2, .cptr (Ex.mk k s n ⟨tk, ts, tn, tks⟩ ks al bs p).cells), (5, .val (.int .i64 c)), (6, .val (.int .i64 i))]) (fun zz => match zz with | (i, c) => []) (fun zz => match zz with | (i, c) => i ≤ ks.length ∧ 1 ≤ c ∧ c ≤ 562949953421312 * m ∧ Ex.cnts (ks.drop i) m c = N1) (fun zz => match zz with | (i, c) => ks.length - i) ((0, 1 + (Ty.cellss tks).length)) ?_ ?_ ?_ ?_
  · rw [hlt]; exact ⟨by omega, by omega, by omega, hN1.symm⟩
  · exact (by repeat' (first | exact SLe.nil _ | refine SLe.cons rfl ?_ ?_ | exact Le.refl _ | exact Le.own _ _ _ | exact Le.nil _))
  · exact (by first | exact MLe.none _ | exact MLe.refl _ | (repeat' (first | exact MLe.nil | exact MLe.refl _ | refine MLe.cons _ ?_ | refine MLe.drop _ ?_)))
  rintro ⟨i, c⟩ hI
  try dsimp only at hI ⊢
  obtain ⟨hi, hc1, hc2, hcN⟩ := hI
  refine c_seq ?_
  refine c_seq ?_
  refine c_bool 23 ((i : Int) < ks.length ∧ c < m) ?_ _ _ rfl ?_
  · skip
    refine AOps.st 14 rfl rfl rfl (op_move rfl rfl ?_)
    refine AOps.st 15 rfl rfl rfl (op_fieldAddr_c rfl tf_60_4 rfl rfl ?_)
    refine AOps.st 16 rfl rfl rfl (op_load_c1 rfl ta_56 rfl rfl ?_)
    refine AOps.st 17 rfl rfl rfl (op_len rfl tu_56 rfl (.seq _ _) (fun n17 => ?_))
    refine AOps.st 18 rfl rfl rfl (op_lss rfl rfl rfl ?_); intro c18 h18
    refine AOps.st 19 rfl rfl rfl (op_move rfl rfl ?_)
    rcases bool_split h18 with ⟨rfl, g18⟩ | ⟨rfl, g18⟩
    · skip
      refine AOps.gf 20 rfl rfl rfl rfl rfl ?_
      refine AOps.gf 21 rfl rfl rfl rfl rfl ?_
      refine AOps.gf 22 rfl rfl rfl rfl rfl ?_
      refine AOps.st 23 rfl rfl rfl (op_pick rfl rfl rfl ?_)
      refine AOps.nil ?_
      refine BoolQ.mk rfl ?_ (by repeat' (first | exact SLe.wo _ _ | exact SLe.refl _ | refine SLe.fresh rfl ?_)) (by first | exact MLe.none _ | exact MLe.refl _ | (repeat' (first | exact MLe.nil | exact MLe.refl _ | refine MLe.cons _ ?_ | refine MLe.drop _ ?_)))
      first | (simp_all; done) | (simp_all; omega)
    · skip
      refine AOps.gt 20 rfl rfl rfl rfl rfl (op_move rfl rfl ?_)
      refine AOps.gt 21 rfl rfl rfl rfl rfl (op_move rfl rfl ?_)
      refine AOps.gt 22 rfl rfl rfl rfl rfl (op_lss rfl rfl rfl ?_); intro c22 h22
      refine AOps.st 23 rfl rfl rfl (op_pick rfl rfl rfl ?_)
      refine AOps.nil ?_
      refine BoolQ.mk rfl ?_ (by repeat' (first | exact SLe.wo _ _ | exact SLe.refl _ | refine SLe.fresh rfl ?_)) (by first | exact MLe.none _ | exact MLe.refl _ | (repeat' (first | exact MLe.nil | exact MLe.refl _ | refine MLe.cons _ ?_ | refine MLe.drop _ ?_)))
      simp_all; done
  intro c23 h23
  refine go_code ?_
  rcases bool_split h23 with ⟨rfl, g23⟩ | ⟨rfl, g23⟩
  · refine c_cond_f rfl ?_
    refine c_exit ?_
    refine x_code ?_
    refine x_lp ?_
    refine x_here ?_
    refine go_code ?_
    refine c_seq ?_
    refine c_seq ?_
    rw [Ex.cnts_end (by omega)] at hcN
    subst hcN
    refine c_region ?_
    refine AOps.st 7 rfl rfl rfl (op_assign rfl rfl ?_)
    refine AOps.nil ?_
    refine go_code ?_
    refine c_block ?_
    refine c_loop (σ := Nat × Int) (fun zz => match zz with | (i, c) => [(1, .val (.int .i64 m)), (2, .cptr (Ex.mk k s n ⟨tk, ts, tn, tks⟩ ks al bs p).cells), (5, .val (.int .i64 c)), (7, .val (.int .i64 i))]) (fun zz => match zz with | (i, c) => []) (fun zz => match zz with | (i, c) => i ≤ bs.length ∧ 1 ≤ c ∧ c ≤ 562949953421312 * m ∧ Bi.cnts (bs.drop i) m c = N2) (fun zz => match zz with | (i, c) => bs.length - i) ((0, c)) ?_ ?_ ?_ ?_
    · exact ⟨by omega, by omega, by omega, hN2.symm⟩
    · exact (by repeat' (first | exact SLe.nil _ | refine SLe.cons rfl ?_ ?_ | exact Le.refl _ | exact Le.own _ _ _ | exact Le.nil _))
    · exact (by first | exact MLe.none _ | exact MLe.refl _ | (repeat' (first | exact MLe.nil | exact MLe.refl _ | refine MLe.cons _ ?_ | refine MLe.drop _ ?_)))
    rintro ⟨i, c⟩ hI
    try dsimp only at hI ⊢
    obtain ⟨hi, hc1, hc2, hcN⟩ := hI
    refine c_seq ?_
    refine c_seq ?_
    refine c_bool 46 ((i : Int) < bs.length ∧ c < m) ?_ _ _ rfl ?_
    · skip
      refine AOps.st 37 rfl rfl rfl (op_move rfl rfl ?_)
      refine AOps.st 38 rfl rfl rfl (op_fieldAddr_c rfl tf_60_6 rfl rfl ?_)
      refine AOps.st 39 rfl rfl rfl (op_load_c1 rfl ta_58 rfl rfl ?_)
      refine AOps.st 40 rfl rfl rfl (op_len rfl tu_58 rfl (.seq _ _) (fun n40 => ?_))
      refine AOps.st 41 rfl rfl rfl (op_lss rfl rfl rfl ?_); intro c41 h41
      refine AOps.st 42 rfl rfl rfl (op_move rfl rfl ?_)
      rcases bool_split h41 with ⟨rfl, g41⟩ | ⟨rfl, g41⟩
      · skip
        refine AOps.gf 43 rfl rfl rfl rfl rfl ?_
        refine AOps.gf 44 rfl rfl rfl rfl rfl ?_
        refine AOps.gf 45 rfl rfl rfl rfl rfl ?_
        refine AOps.st 46 rfl rfl rfl (op_pick rfl rfl rfl ?_)
        refine AOps.nil ?_
        refine BoolQ.mk rfl ?_ (by repeat' (first | exact SLe.wo _ _ | exact SLe.refl _ | refine SLe.fresh rfl ?_)) (by first | exact MLe.none _ | exact MLe.refl _ | (repeat' (first | exact MLe.nil | exact MLe.refl _ | refine MLe.cons _ ?_ | refine MLe.drop _ ?_)))
        first | (simp_all; done) | (simp_all; omega)
      · skip
        refine AOps.gt 43 rfl rfl rfl rfl rfl (op_move rfl rfl ?_)
        refine AOps.gt 44 rfl rfl rfl rfl rfl (op_move rfl rfl ?_)
        refine AOps.gt 45 rfl rfl rfl rfl rfl (op_lss rfl rfl rfl ?_); intro c45 h45
        refine AOps.st 46 rfl rfl rfl (op_pick rfl rfl rfl ?_)
        refine AOps.nil ?_
        refine BoolQ.mk rfl ?_ (by repeat' (first | exact SLe.wo _ _ | exact SLe.refl _ | refine SLe.fresh rfl ?_)) (by first | exact MLe.none _ | exact MLe.refl _ | (repeat' (first | exact MLe.nil | exact MLe.refl _ | refine MLe.cons _ ?_ | refine MLe.drop _ ?_)))
        simp_all; done
    intro c46 h46
    refine go_code ?_
    rcases bool_split h46 with ⟨rfl, g46⟩ | ⟨rfl, g46⟩
    · refine c_cond_f rfl ?_
      refine c_exit ?_
      refine x_code ?_
      refine x_lp ?_
      refine x_here ?_
      refine go_code ?_
      refine c_seq ?_
      refine c_seq ?_
      rw [Bi.cnts_end (by omega)] at hcN
      subst hcN
      refine c_region ?_
      refine AOps.st 8 rfl rfl rfl (op_assign rfl rfl ?_)
      refine AOps.nil ?_
      refine go_code ?_
      refine c_block ?_
      refine c_loop (σ := Nat × Int) (fun zz => match zz with | (i, c) => [(1, .val (.int .i64 m)), (2, .cptr (Ex.mk k s n ⟨tk, ts, tn, tks⟩ ks al bs p).cells), (5, .val (.int .i64 c)), (8, .val (.int .i64 i))]) (fun zz => match zz with | (i, c) => []) (fun zz => match zz with | (i, c) => i ≤ al.length ∧ 1 ≤ c ∧ c ≤ 562949953421312 * m ∧ Al.cnts (al.drop i) m c = N3) (fun zz => match zz with | (i, c) => al.length - i) ((0, c)) ?_ ?_ ?_ ?_
      · exact ⟨by omega, by omega, by omega, hN3.symm⟩
      · exact (by repeat' (first | exact SLe.nil _ | refine SLe.cons rfl ?_ ?_ | exact Le.refl _ | exact Le.own _ _ _ | exact Le.nil _))
      · exact (by first | exact MLe.none _ | exact MLe.refl _ | (repeat' (first | exact MLe.nil | exact MLe.refl _ | refine MLe.cons _ ?_ | refine MLe.drop _ ?_)))
      rintro ⟨i, c⟩ hI
      try dsimp only at hI ⊢
      obtain ⟨hi, hc1, hc2, hcN⟩ := hI
      refine c_seq ?_
      refine c_seq ?_
      refine c_bool 71 ((i : Int) < al.length ∧ c < m) ?_ _ _ rfl ?_
      · skip
        refine AOps.st 62 rfl rfl rfl (op_move rfl rfl ?_)
        refine AOps.st 63 rfl rfl rfl (op_fieldAddr_c rfl tf_60_5 rfl rfl ?_)
        refine AOps.st 64 rfl rfl rfl (op_load_c1 rfl ta_57 rfl rfl ?_)
        refine AOps.st 65 rfl rfl rfl (op_len rfl tu_57 rfl (.seq _ _) (fun n65 => ?_))
        refine AOps.st 66 rfl rfl rfl (op_lss rfl rfl rfl ?_); intro c66 h66
        refine AOps.st 67 rfl rfl rfl (op_move rfl rfl ?_)
        rcases bool_split h66 with ⟨rfl, g66⟩ | ⟨rfl, g66⟩
        · skip
          refine AOps.gf 68 rfl rfl rfl rfl rfl ?_
          refine AOps.gf 69 rfl rfl rfl rfl rfl ?_
          refine AOps.gf 70 rfl rfl rfl rfl rfl ?_
          refine AOps.st 71 rfl rfl rfl (op_pick rfl rfl rfl ?_)
          refine AOps.nil ?_
          refine BoolQ.mk rfl ?_ (by repeat' (first | exact SLe.wo _ _ | exact SLe.refl _ | refine SLe.fresh rfl ?_)) (by first | exact MLe.none _ | exact MLe.refl _ | (repeat' (first | exact MLe.nil | exact MLe.refl _ | refine MLe.cons _ ?_ | refine MLe.drop _ ?_)))
          first | (simp_all; done) | (simp_all; omega)
        · skip
          refine AOps.gt 68 rfl rfl rfl rfl rfl (op_move rfl rfl ?_)
          refine AOps.gt 69 rfl rfl rfl rfl rfl (op_move rfl rfl ?_)
          refine AOps.gt 70 rfl rfl rfl rfl rfl (op_lss rfl rfl rfl ?_); intro c70 h70
          refine AOps.st 71 rfl rfl rfl (op_pick rfl rfl rfl ?_)
          refine AOps.nil ?_
          refine BoolQ.mk rfl ?_ (by repeat' (first | exact SLe.wo _ _ | exact SLe.refl _ | refine SLe.fresh rfl ?_)) (by first | exact MLe.none _ | exact MLe.refl _ | (repeat' (first | exact MLe.nil | exact MLe.refl _ | refine MLe.cons _ ?_ | refine MLe.drop _ ?_)))
          simp_all; done
      intro c71 h71
      refine go_code ?_
      rcases bool_split h71 with ⟨rfl, g71⟩ | ⟨rfl, g71⟩
      · refine c_cond_f rfl ?_
        refine c_exit ?_
        refine x_code ?_
        refine x_lp ?_
        refine x_here ?_
        refine go_code ?_
        refine c_seq ?_
        rw [Al.cnts_end (by omega)] at hcN
        subst hcN
        refine c_region ?_
        refine AOps.st 96 rfl rfl rfl (op_move rfl rfl ?_)
        refine AOps.st 4 rfl rfl rfl (op_assign rfl rfl ?_)
        refine AOps.nil ?_
        refine go_code ?_
        refine c_ret ?_
        exact out_tmp rfl rfl (Le.refl _) (by first | exact MLe.none _ | exact MLe.refl _ | (repeat' (first | exact MLe.nil | exact MLe.refl _ | refine MLe.cons _ ?_ | refine MLe.drop _ ?_))) ⟨rfl, rfl⟩
      · refine c_cond_t rfl ?_
        refine c_skip ?_
        refine go_code ?_
        refine c_seq ?_
        refine c_block ?_
        obtain ⟨⟨⟨qk, qs, qn, qks, qp⟩, ⟨yk, yt, yn, ⟨ytk, yts, ytn, ytks⟩, yks, yal, ybs, yp⟩⟩, hx⟩ := get_some (l := al) (i := i) (by omega)
        have hcx := Al.cellss_get hx
        have hlq := Pa.cellss_len qks
        have hll := (Al.lims_iff _).1 l4 _ (List.mem_of_getElem? hx)
        have hb := Al.cnt_b _ (m - c) hll (by omega) (by omega)
        rw [Al.Lim, Pa.kn] at hll
        have hll2 := hll.2
        have hIH := IHa _ (List.mem_of_getElem? hx) (m - c) (by omega) (by omega)
        have hst := Al.cnts_at hx g71.2
        rw [Al.e] at hIH
        rw [Al.cnt, Pa.kn, ← hlq] at hst hb
        generalize Ex.cnt ⟨yk, yt, yn, ⟨ytk, yts, ytn, ytks⟩, yks, yal, ybs, yp⟩ (m - c) = r at *
        refine c_drawn tmix rfl ?_
        refine DOps.st 74 rfl rfl (op_move rfl rfl ⟨rfl, rfl⟩) ?_
        refine DOps.st 75 rfl rfl (op_fieldAddr_c rfl tf_60_5 rfl rfl ⟨rfl, rfl⟩) ?_
        refine DOps.st 76 rfl rfl (op_load_c1 rfl ta_57 rfl rfl ⟨rfl, rfl⟩) ?_
        refine DOps.st 77 rfl rfl (op_move rfl rfl ⟨rfl, rfl⟩) ?_
        refine DOps.st 78 rfl rfl (op_index rfl te_57 rfl (.seq _ _) rfl rfl (by assumption) ⟨rfl, rfl⟩) ?_
        first | (refine DOps.st 79 rfl rfl (op_fieldAddr_m rfl tf_70_1 rfl ⟨rfl, rfl⟩) ?_) | (refine DOps.st 79 rfl rfl (op_fieldAddr_c rfl tf_70_1 rfl rfl ⟨rfl, rfl⟩) ?_)
        first | (refine DOps.st 80 rfl rfl (op_load_m (cs' := [_, _, _, _, _, _, _, _, _, _, _]) (i := 0) rfl ta_60 rfl rfl rfl rfl ⟨rfl, rfl⟩) ?_) | (refine DOps.st 80 rfl rfl (op_load_m (cs' := [_, _, _, _, _, _, _, _, _, _, _]) (i := 1) rfl ta_60 rfl rfl rfl rfl ⟨rfl, rfl⟩) ?_) | (refine DOps.st 80 rfl rfl (op_load_m (cs' := [_, _, _, _, _, _, _, _, _, _, _]) (i := 2) rfl ta_60 rfl rfl rfl rfl ⟨rfl, rfl⟩) ?_) | (refine DOps.st 80 rfl rfl (op_load_m (cs' := [_, _, _, _, _, _, _, _, _, _, _]) (i := 3) rfl ta_60 rfl rfl rfl rfl ⟨rfl, rfl⟩) ?_) | (refine DOps.st 80 rfl rfl (op_load_m (cs' := [_, _, _, _, _, _, _, _, _, _, _]) (i := 4) rfl ta_60 rfl rfl rfl rfl ⟨rfl, rfl⟩) ?_) | (refine DOps.st 80 rfl rfl (op_load_m (cs' := [_, _, _, _, _, _, _, _, _, _, _]) (i := 5) rfl ta_60 rfl rfl rfl rfl ⟨rfl, rfl⟩) ?_) | (refine DOps.st 80 rfl rfl (op_load_c (cs' := [_, _, _, _, _, _, _, _, _, _, _]) rfl ta_60 rfl rfl rfl ⟨rfl, rfl⟩) ?_)
        refine DOps.st 81 rfl rfl (op_move rfl rfl ⟨rfl, rfl⟩) ?_
        refine DOps.st 82 rfl rfl (op_move rfl rfl ⟨rfl, rfl⟩) ?_
        refine DOps.st 83 rfl rfl (op_sub rfl rfl rfl (IntWalk.i64_in _ (by omega)) ⟨rfl, rfl⟩) ?_
        refine DOps.st 84 rfl rfl (op_callp (xs := [.tmp 80, .tmp 83]) rfl rfl (hIH) (by first | exact Les.refl _ | (repeat' (first | exact Les.refl _ | refine Les.cons ?_ ?_ | exact Le.refl _ | exact Le.own _ _ _ | exact Le.nil _ | refine Le.agg ?_))) ⟨rfl, rfl⟩) ?_
        refine DOps.st 85 rfl rfl (op_add rfl rfl rfl (IntWalk.i64_in _ (by omega)) ⟨rfl, rfl⟩) ?_
        refine DOps.st 86 rfl rfl (op_fieldAddr_c rfl tf_60_5 rfl rfl ⟨rfl, rfl⟩) ?_
        refine DOps.st 87 rfl rfl (op_load_c1 rfl ta_57 rfl rfl ⟨rfl, rfl⟩) ?_
        refine DOps.st 88 rfl rfl (op_move rfl rfl ⟨rfl, rfl⟩) ?_
        refine DOps.st 89 rfl rfl (op_index rfl te_57 rfl (.seq _ _) rfl rfl (by assumption) ⟨rfl, rfl⟩) ?_
        first | (refine DOps.st 90 rfl rfl (op_fieldAddr_m rfl tf_70_0 rfl ⟨rfl, rfl⟩) ?_) | (refine DOps.st 90 rfl rfl (op_fieldAddr_c rfl tf_70_0 rfl rfl ⟨rfl, rfl⟩) ?_)
        first | (refine DOps.st 91 rfl rfl (op_fieldAddr_m rfl tf_68_3 rfl ⟨rfl, rfl⟩) ?_) | (refine DOps.st 91 rfl rfl (op_fieldAddr_c rfl tf_68_3 rfl rfl ⟨rfl, rfl⟩) ?_)
        first | (refine DOps.st 92 rfl rfl (op_load_m1 (i := 0) rfl ta_66 rfl rfl rfl ⟨rfl, rfl⟩) ?_) | (refine DOps.st 92 rfl rfl (op_load_m1 (i := 1) rfl ta_66 rfl rfl rfl ⟨rfl, rfl⟩) ?_) | (refine DOps.st 92 rfl rfl (op_load_m1 (i := 2) rfl ta_66 rfl rfl rfl ⟨rfl, rfl⟩) ?_) | (refine DOps.st 92 rfl rfl (op_load_m1 (i := 3) rfl ta_66 rfl rfl rfl ⟨rfl, rfl⟩) ?_) | (refine DOps.st 92 rfl rfl (op_load_m1 (i := 4) rfl ta_66 rfl rfl rfl ⟨rfl, rfl⟩) ?_) | (refine DOps.st 92 rfl rfl (op_load_m1 (i := 5) rfl ta_66 rfl rfl rfl ⟨rfl, rfl⟩) ?_) | (refine DOps.st 92 rfl rfl (op_load_c1 rfl ta_66 rfl rfl ⟨rfl, rfl⟩) ?_)
        refine DOps.st 93 rfl rfl (op_len rfl tu_66 rfl (.seq _ _) (fun _ => ⟨rfl, rfl⟩)) ?_
        refine DOps.st 94 rfl rfl (op_add rfl rfl rfl (IntWalk.i64_in _ (by omega)) ⟨rfl, rfl⟩) ?_
        refine DOps.st 95 rfl rfl (op_add rfl rfl rfl (IntWalk.i64_in _ (by omega)) ⟨rfl, rfl⟩) ?_
        refine DOps.st 5 rfl rfl (op_assign rfl rfl ⟨rfl, rfl⟩) ?_
        show AGo _ _ _ _ _ _ _
        refine go_blk ?_
        refine go_code ?_
        refine c_region ?_
        refine AOps.st 72 rfl rfl rfl (op_move rfl rfl ?_)
        refine AOps.st 73 rfl rfl rfl (op_add rfl rfl rfl (IntWalk.i64_in _ (by omega)) ?_)
        refine AOps.st 8 rfl rfl rfl (op_assign rfl rfl ?_)
        refine AOps.nil ?_
        refine go_lp ?_
        exact ⟨(i + 1, c + (1 + r + (Pa.cellss qks).length)), ⟨by omega, by omega, by omega, by rw [← hcN, hst]⟩, by simp; omega, (by repeat' (first | exact SLe.nil _ | refine SLe.cons rfl ?_ ?_ | exact Le.refl _ | exact Le.own _ _ _ | exact Le.nil _)), (by first | exact MLe.none _ | exact MLe.refl _ | (repeat' (first | exact MLe.nil | exact MLe.refl _ | refine MLe.cons _ ?_ | refine MLe.drop _ ?_)))⟩
    · refine c_cond_t rfl ?_
      refine c_skip ?_
      refine go_code ?_
      refine c_seq ?_
      refine c_block ?_
      obtain ⟨⟨ys, ⟨yk, yt, yn, ⟨ytk, yts, ytn, ytks⟩, yks, yal, ybs, yp⟩, yq⟩, hx⟩ := get_some (l := bs) (i := i) (by omega)
      have hcx := Bi.cellss_get hx
      have hb := Bi.cnt_b _ (m - c) ((Bi.lims_iff _).1 l3 _ (List.mem_of_getElem? hx)) (by omega) (by omega)
      have hIH := IHb _ (List.mem_of_getElem? hx) (m - c) (by omega) (by omega)
      have hst := Bi.cnts_at hx g46.2
      rw [Bi.e] at hIH
      rw [Bi.cnt] at hst hb
      generalize Ex.cnt ⟨yk, yt, yn, ⟨ytk, yts, ytn, ytks⟩, yks, yal, ybs, yp⟩ (m - c) = r at *
      refine c_region ?_
      refine AOps.st 49 rfl rfl rfl (op_move rfl rfl ?_)
      refine AOps.st 50 rfl rfl rfl (op_fieldAddr_c rfl tf_60_6 rfl rfl ?_)
      refine AOps.st 51 rfl rfl rfl (op_load_c1 rfl ta_58 rfl rfl ?_)
      refine AOps.st 52 rfl rfl rfl (op_move rfl rfl ?_)
      refine AOps.st 53 rfl rfl rfl (op_index rfl te_58 rfl (.seq _ _) rfl rfl (by assumption) ?_)
      first | (refine AOps.st 54 rfl rfl rfl (op_fieldAddr_m rfl tf_74_1 rfl ?_)) | (refine AOps.st 54 rfl rfl rfl (op_fieldAddr_c rfl tf_74_1 rfl rfl ?_))
      first | (refine AOps.st 55 rfl rfl rfl (op_load_m (cs' := [_, _, _, _, _, _, _, _, _, _, _]) (i := 0) rfl ta_60 rfl rfl rfl rfl ?_)) | (refine AOps.st 55 rfl rfl rfl (op_load_m (cs' := [_, _, _, _, _, _, _, _, _, _, _]) (i := 1) rfl ta_60 rfl rfl rfl rfl ?_)) | (refine AOps.st 55 rfl rfl rfl (op_load_m (cs' := [_, _, _, _, _, _, _, _, _, _, _]) (i := 2) rfl ta_60 rfl rfl rfl rfl ?_)) | (refine AOps.st 55 rfl rfl rfl (op_load_m (cs' := [_, _, _, _, _, _, _, _, _, _, _]) (i := 3) rfl ta_60 rfl rfl rfl rfl ?_)) | (refine AOps.st 55 rfl rfl rfl (op_load_m (cs' := [_, _, _, _, _, _, _, _, _, _, _]) (i := 4) rfl ta_60 rfl rfl rfl rfl ?_)) | (refine AOps.st 55 rfl rfl rfl (op_load_m (cs' := [_, _, _, _, _, _, _, _, _, _, _]) (i := 5) rfl ta_60 rfl rfl rfl rfl ?_)) | (refine AOps.st 55 rfl rfl rfl (op_load_c (cs' := [_, _, _, _, _, _, _, _, _, _, _]) rfl ta_60 rfl rfl rfl ?_))
      refine AOps.st 56 rfl rfl rfl (op_move rfl rfl ?_)
      refine AOps.st 57 rfl rfl rfl (op_move rfl rfl ?_)
      refine AOps.st 58 rfl rfl rfl (op_sub rfl rfl rfl (IntWalk.i64_in _ (by omega)) ?_)
      refine AOps.st 59 rfl rfl rfl (op_callp (xs := [.tmp 55, .tmp 58]) rfl rfl (hIH) (by first | exact Les.refl _ | (repeat' (first | exact Les.refl _ | refine Les.cons ?_ ?_ | exact Le.refl _ | exact Le.own _ _ _ | exact Le.nil _ | refine Le.agg ?_))) ?_)
      refine AOps.st 60 rfl rfl rfl (op_add rfl rfl rfl (IntWalk.i64_in _ (by omega)) ?_)
      refine AOps.st 61 rfl rfl rfl (op_add rfl rfl rfl (IntWalk.i64_in _ (by omega)) ?_)
      refine AOps.st 5 rfl rfl rfl (op_assign rfl rfl ?_)
      refine AOps.nil ?_
      refine go_blk ?_
      refine go_code ?_
      refine c_region ?_
      refine AOps.st 47 rfl rfl rfl (op_move rfl rfl ?_)
      refine AOps.st 48 rfl rfl rfl (op_add rfl rfl rfl (IntWalk.i64_in _ (by omega)) ?_)
      refine AOps.st 7 rfl rfl rfl (op_assign rfl rfl ?_)
      refine AOps.nil ?_
      refine go_lp ?_
      exact ⟨(i + 1, c + (1 + r)), ⟨by omega, by omega, by omega, by rw [← hcN, hst]⟩, by simp; omega, (by repeat' (first | exact SLe.nil _ | refine SLe.cons rfl ?_ ?_ | exact Le.refl _ | exact Le.own _ _ _ | exact Le.nil _)), (by first | exact MLe.none _ | exact MLe.refl _ | (repeat' (first | exact MLe.nil | exact MLe.refl _ | refine MLe.cons _ ?_ | refine MLe.drop _ ?_)))⟩
  · refine c_cond_t rfl ?_
    refine c_skip ?_
    refine go_code ?_
    refine c_seq ?_
    refine c_block ?_
    obtain ⟨⟨yk, yt, yn, ⟨ytk, yts, ytn, ytks⟩, yks, yal, ybs, yp⟩, hx⟩ := get_some (l := ks) (i := i) (by omega)
    have hcx := Ex.cellss_get hx
    have hb := Ex.cnt_b ⟨yk, yt, yn, ⟨ytk, yts, ytn, ytks⟩, yks, yal, ybs, yp⟩ (m - c) ((Ex.lims_iff _).1 l2 _ (List.mem_of_getElem? hx)) (by omega) (by omega)
    have hIH := IHk _ (List.mem_of_getElem? hx) (m - c) (by omega) (by omega)
    have hst := Ex.cnts_at hx g23.2
    generalize Ex.cnt ⟨yk, yt, yn, ⟨ytk, yts, ytn, ytks⟩, yks, yal, ybs, yp⟩ (m - c) = r at *
    refine c_region ?_
    refine AOps.st 26 rfl rfl rfl (op_move rfl rfl ?_)
    refine AOps.st 27 rfl rfl rfl (op_fieldAddr_c rfl tf_60_4 rfl rfl ?_)
    refine AOps.st 28 rfl rfl rfl (op_load_c1 rfl ta_56 rfl rfl ?_)
    refine AOps.st 29 rfl rfl rfl (op_move rfl rfl ?_)
    refine AOps.st 30 rfl rfl rfl (op_index rfl te_56 rfl (.seq _ _) rfl rfl (by assumption) ?_)
    first | (refine AOps.st 31 rfl rfl rfl (op_load_m (cs' := [_, _, _, _, _, _, _, _, _, _, _]) (i := 0) rfl ta_60 rfl rfl rfl rfl ?_)) | (refine AOps.st 31 rfl rfl rfl (op_load_m (cs' := [_, _, _, _, _, _, _, _, _, _, _]) (i := 1) rfl ta_60 rfl rfl rfl rfl ?_)) | (refine AOps.st 31 rfl rfl rfl (op_load_m (cs' := [_, _, _, _, _, _, _, _, _, _, _]) (i := 2) rfl ta_60 rfl rfl rfl rfl ?_)) | (refine AOps.st 31 rfl rfl rfl (op_load_m (cs' := [_, _, _, _, _, _, _, _, _, _, _]) (i := 3) rfl ta_60 rfl rfl rfl rfl ?_)) | (refine AOps.st 31 rfl rfl rfl (op_load_m (cs' := [_, _, _, _, _, _, _, _, _, _, _]) (i := 4) rfl ta_60 rfl rfl rfl rfl ?_)) | (refine AOps.st 31 rfl rfl rfl (op_load_m (cs' := [_, _, _, _, _, _, _, _, _, _, _]) (i := 5) rfl ta_60 rfl rfl rfl rfl ?_)) | (refine AOps.st 31 rfl rfl rfl (op_load_c (cs' := [_, _, _, _, _, _, _, _, _, _, _]) rfl ta_60 rfl rfl rfl ?_))
    refine AOps.st 32 rfl rfl rfl (op_move rfl rfl ?_)
    refine AOps.st 33 rfl rfl rfl (op_move rfl rfl ?_)
    refine AOps.st 34 rfl rfl rfl (op_sub rfl rfl rfl (IntWalk.i64_in _ (by omega)) ?_)
    refine AOps.st 35 rfl rfl rfl (op_callp (xs := [.tmp 31, .tmp 34]) rfl rfl (hIH) (by first | exact Les.refl _ | (repeat' (first | exact Les.refl _ | refine Les.cons ?_ ?_ | exact Le.refl _ | exact Le.own _ _ _ | exact Le.nil _ | refine Le.agg ?_))) ?_)
    refine AOps.st 36 rfl rfl rfl (op_add rfl rfl rfl (IntWalk.i64_in _ (by omega)) ?_)
    refine AOps.st 5 rfl rfl rfl (op_assign rfl rfl ?_)
    refine AOps.nil ?_
    refine go_blk ?_
    refine go_code ?_
    refine c_region ?_
    refine AOps.st 24 rfl rfl rfl (op_move rfl rfl ?_)
    refine AOps.st 25 rfl rfl rfl (op_add rfl rfl rfl (IntWalk.i64_in _ (by omega)) ?_)
    refine AOps.st 6 rfl rfl rfl (op_assign rfl rfl ?_)
    refine AOps.nil ?_
    refine go_lp ?_
    exact ⟨(i + 1, c + r), ⟨by omega, by omega, by omega, by rw [← hcN, hst]⟩, by simp; omega, (by repeat' (first | exact SLe.nil _ | refine SLe.cons rfl ?_ ?_ | exact Le.refl _ | exact Le.own _ _ _ | exact Le.nil _)), (by first | exact MLe.none _ | exact MLe.refl _ | (repeat' (first | exact MLe.nil | exact MLe.refl _ | refine MLe.cons _ ?_ | refine MLe.drop _ ?_)))⟩
termination_by SizeOf.sizeOf e
decreasing_by
  · exact Ex.lt_kid hx
  · exact Nat.lt_trans (Bi.lt_e x) (Ex.lt_bind hx)
  · exact Nat.lt_trans (Al.lt_e x) (Ex.lt_alt hx)
set_option maxHeartbeats 4000000 in
set_option maxRecDepth 100000 in
theorem Small5_c (e : Ex) (m : Int) (hL : e.Lim) (h1 : 0 ≤ m) (h2 : m ≤ 1000) : BCall Try.prog 40 [.agg e.cells, .val (.int .i64 m)] (e.full ≤ m) := by
  have hb := Ex.cnt_b e (m + 1) hL (by omega) (by omega)
  have HC := Count_c e (m + 1) hL (by omega) (by omega)
  generalize e.cnt (m + 1) = r at *
  generalize e.full = f at *
  obtain ⟨k, s, n, ⟨tk, ts, tn, tks⟩, ks, al, bs, p⟩ := e
  refine ACall.enter Try.func40 rfl (by kernel_rfl) rfl (Nat.le_of_ble_eq_true rfl) ?_
  refine c_start ?_
  refine c_seq ?_
  refine c_region ?_
  refine AOps.st 2 rfl rfl rfl (op_boxc (cs' := [_, _, _, _, _, _, _, _, _, _, _]) rfl rfl rfl rfl ?_)
  refine AOps.st 4 rfl rfl rfl (op_assign rfl rfl ?_)
  refine AOps.nil ?_
  refine go_code ?_
  refine c_seq ?_
  refine c_region ?_
  refine AOps.st 5 rfl rfl rfl (op_load_c (cs' := [_, _, _, _, _, _, _, _, _, _, _]) rfl ta_60 rfl rfl rfl ?_)
  refine AOps.st 6 rfl rfl rfl (op_move rfl rfl ?_)
  refine AOps.st 7 rfl rfl rfl (op_add rfl rfl rfl (IntWalk.i64_in _ (by omega)) ?_)
  refine AOps.st 8 rfl rfl rfl (op_callp (xs := [.tmp 5, .tmp 7]) rfl rfl (HC) (by first | exact Les.refl _ | (repeat' (first | exact Les.refl _ | refine Les.cons ?_ ?_ | exact Le.refl _ | exact Le.own _ _ _ | exact Le.nil _ | refine Le.agg ?_))) ?_)
  refine AOps.st 9 rfl rfl rfl (op_move rfl rfl ?_)
  refine AOps.st 10 rfl rfl rfl (op_leq rfl rfl rfl ?_); intro c10 h10
  refine AOps.st 4 rfl rfl rfl (op_assign rfl rfl ?_)
  refine AOps.nil ?_
  refine go_code ?_
  refine c_ret ?_
  exact out_tmp rfl rfl (Le.refl _) (by first | exact MLe.none _ | exact MLe.refl _ | (repeat' (first | exact MLe.nil | exact MLe.refl _ | refine MLe.cons _ ?_ | refine MLe.drop _ ?_))) ⟨⟨_, h10.trans (by omega), rfl⟩, rfl⟩
end Go.Proofs.Ytjgjnheeohfmmaa
