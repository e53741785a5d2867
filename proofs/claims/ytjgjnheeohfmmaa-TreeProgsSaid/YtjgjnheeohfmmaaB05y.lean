/- cognateref05.Parts, Size, Deep; cognatelaw05.Count, Small -/
import Derived.Test.YtjgjnheeohfmmaaB05w
import Derived.Test.YtjgjnheeohfmmaaPC
namespace Go.Proofs.Ytjgjnheeohfmmaa
open Go.RowKit
set_option maxHeartbeats 4000000 in
set_option maxRecDepth 100000 in
theorem rParts_c (e : Ex) (hp : e.parts.length ≤ 1000000000) : OCall Try.prog 86 [.agg e.cells] 60 11 (Ex.cellss e.parts) := by
  obtain ⟨k, s, n, ⟨tk, ts, tn, tks⟩, ks, al, bs, p⟩ := e
  rw [Ex.parts] at hp ⊢
  have hlk := Ex.cellss_len ks
  have hlb := Bi.cellss_len bs
  have hla := Al.cellss_len al
  obtain ⟨H1, hH1⟩ : ∃ H1, H1 = (if k = 7 then [] else ks) := ⟨_, rfl⟩
  obtain ⟨H2, hH2⟩ : ∃ H2, H2 = (if k = 7 then ks else []) := ⟨_, rfl⟩
  rw [← hH1, ← hH2] at hp ⊢
  simp only [List.length_append, List.length_map] at hp
  have hk : H1.length + H2.length = ks.length := by rw [hH1, hH2]; split <;> simp
  refine ACall.enter Try.func86 rfl (by kernel_rfl) rfl (Nat.le_of_ble_eq_true rfl) ?_
  refine c_start ?_
  refine c_lena (t := 0) (j := 8) rfl rfl (.seq _ _) (fun hmax1 => ?_)
  refine c_lena (t := 0) (j := 9) rfl rfl (.seq _ _) (fun hmax2 => ?_)
  refine c_seq ?_
  refine c_region ?_
  refine AOps.st 1 rfl rfl rfl (op_boxc (cs' := [_, _, _, _, _, _, _, _, _, _, _]) rfl rfl rfl rfl ?_)
  refine AOps.st 2 rfl rfl rfl (op_assign rfl rfl ?_)
  refine AOps.nil ?_
  refine go_code ?_
  refine c_seq ?_
  refine c_region ?_
  refine AOps.st 3 rfl rfl rfl (op_assign rfl rfl ?_)
  refine AOps.nil ?_
  refine go_code ?_
  refine c_seq ?_
  refine c_seq ?_
  refine ACode.ownNil (t := 3) 60 11 rfl ?_
  refine c_region ?_
  refine AOps.st 6 rfl rfl rfl (op_fieldAddr_c rfl tf_60_0 rfl rfl ?_)
  refine AOps.st 7 rfl rfl rfl (op_load_c1 rfl ta_3 rfl rfl ?_)
  refine AOps.st 8 rfl rfl rfl (op_neq rfl rfl rfl ?_); intro c8 h8
  refine AOps.nil ?_
  refine go_code ?_
  rcases bool_split h8 with ⟨rfl, g8⟩ | ⟨rfl, g8⟩
  · refine c_cond_f rfl ?_
    refine c_skip ?_
    refine go_code ?_
    refine c_seq ?_
    refine c_seq ?_
    refine c_region ?_
    refine AOps.st 4 rfl rfl rfl (op_assign rfl rfl ?_)
    refine AOps.nil ?_
    refine go_code ?_
    refine c_block ?_
    first | (refine c_loop (σ := Nat × Value) (fun zz => match zz with | (i, u) => [(1, .cptr (Ex.mk k s n ⟨tk, ts, tn, tks⟩ ks al bs p).cells), (3, .own u 11 (Ex.cellss (H1 ++ (bs.take i).map Bi.e))), (4, .val (.int .i64 i))]) (fun zz => match zz with | (i, u) => [.own 60 11 u]) (fun zz => match zz with | (i, u) => i ≤ bs.length) (fun zz => match zz with | (i, u) => bs.length - i) ((0, u12)) ?_ ?_ ?_ ?_) | (refine c_loop (σ := Nat × Value) (fun zz => match zz with | (i, u) => [(1, .cptr (Ex.mk k s n ⟨tk, ts, tn, tks⟩ ks al bs p).cells), (3, .own u 11 (Ex.cellss (H1 ++ (bs.take i).map Bi.e))), (4, .val (.int .i64 i))]) (fun zz => match zz with | (i, u) => [.own 60 11 u]) (fun zz => match zz with | (i, u) => i ≤ bs.length) (fun zz => match zz with | (i, u) => bs.length - i) ((0, .slice none 0 0)) ?_ ?_ ?_ ?_)
    · simp
    · exact (by repeat' (first | exact SLe.nil _ | refine SLe.cons rfl ?_ ?_ | exact Le.refl _ | exact Le.own _ _ _ | exact Le.nil _ | (refine Le.own_eq ?_; first | (rw [hH1, if_neg (by omega)]; simp; done) | (rw [hH1, if_pos (by omega)]; rfl)) | (refine Le.own_seq ?_; first | (rw [hH1, if_neg (by omega)]; simp; done) | (rw [hH1, if_pos (by omega)]; rfl)) | (refine Le.seq_eq ?_; first | (rw [hH1, if_neg (by omega)]; simp; done) | (rw [hH1, if_pos (by omega)]; rfl))))
    · exact (by first | exact MLe.none _ | exact MLe.refl _ | (repeat' (first | exact MLe.nil | exact MLe.refl _ | refine MLe.cons _ ?_ | refine MLe.drop _ ?_)))
    rintro ⟨i, u⟩ hI
    try dsimp only at hI ⊢
    refine c_seq ?_
    refine c_seq ?_
    refine c_region ?_
    refine AOps.st 13 rfl rfl rfl (op_move rfl rfl ?_)
    refine AOps.st 14 rfl rfl rfl (op_fieldAddr_c rfl tf_60_6 rfl rfl ?_)
    refine AOps.st 15 rfl rfl rfl (op_load_c1 rfl ta_58 rfl rfl ?_)
    refine AOps.st 16 rfl rfl rfl (op_len rfl tu_58 rfl (.seq _ _) (fun n16 => ?_))
    refine AOps.st 17 rfl rfl rfl (op_lss rfl rfl rfl ?_); intro c17 h17
    refine AOps.nil ?_
    refine go_code ?_
    rcases bool_split h17 with ⟨rfl, g17⟩ | ⟨rfl, g17⟩
    · refine c_cond_f rfl ?_
      refine c_exit ?_
      refine x_code ?_
      refine x_lp ?_
      refine x_here ?_
      refine go_code ?_
      refine c_seq ?_
      refine c_seq ?_
      rw [List.take_of_length_le (by omega)]
      have el : (Ex.cellss (H1 ++ bs.map Bi.e)).length = H1.length + bs.length := by
        rw [Ex.cellss_len]; simp
      refine c_region ?_
      refine AOps.st 29 rfl rfl rfl (op_fieldAddr_c rfl tf_60_0 rfl rfl ?_)
      refine AOps.st 30 rfl rfl rfl (op_load_c1 rfl ta_3 rfl rfl ?_)
      refine AOps.st 31 rfl rfl rfl (op_eql rfl rfl rfl ?_); intro c31 h31
      refine AOps.nil ?_
      refine go_code ?_
      rcases bool_split h31 with ⟨rfl, g31⟩ | ⟨rfl, g31⟩
      · refine c_cond_f rfl ?_
        refine c_skip ?_
        refine go_code ?_
        refine c_seq ?_
        refine c_seq ?_
        refine c_region ?_
        refine AOps.st 5 rfl rfl rfl (op_assign rfl rfl ?_)
        refine AOps.nil ?_
        refine go_code ?_
        refine c_block ?_
        first | (refine c_loop (σ := Nat × Value) (fun zz => match zz with | (j, v) => [(1, .cptr (Ex.mk k s n ⟨tk, ts, tn, tks⟩ ks al bs p).cells), (3, .own v 11 (Ex.cellss (H1 ++ bs.map Bi.e ++ H2 ++ (al.take j).map Al.e))), (5, .val (.int .i64 j))]) (fun zz => match zz with | (j, v) => [.own 60 11 v]) (fun zz => match zz with | (j, v) => j ≤ al.length) (fun zz => match zz with | (j, v) => al.length - j) ((0, u35)) ?_ ?_ ?_ ?_) | (refine c_loop (σ := Nat × Value) (fun zz => match zz with | (j, v) => [(1, .cptr (Ex.mk k s n ⟨tk, ts, tn, tks⟩ ks al bs p).cells), (3, .own v 11 (Ex.cellss (H1 ++ bs.map Bi.e ++ H2 ++ (al.take j).map Al.e))), (5, .val (.int .i64 j))]) (fun zz => match zz with | (j, v) => [.own 60 11 v]) (fun zz => match zz with | (j, v) => j ≤ al.length) (fun zz => match zz with | (j, v) => al.length - j) ((0, u)) ?_ ?_ ?_ ?_)
        · simp
        · exact (by repeat' (first | exact SLe.nil _ | refine SLe.cons rfl ?_ ?_ | exact Le.refl _ | exact Le.own _ _ _ | exact Le.nil _ | (refine Le.own_eq ?_; first | omega | (rw [hH2, if_pos (by omega)]; simp [Ex.cellss_map]; done) | (rw [hH2, if_neg (by omega)]; simp; done)) | (refine Le.own_seq ?_; first | omega | (rw [hH2, if_pos (by omega)]; simp [Ex.cellss_map]; done) | (rw [hH2, if_neg (by omega)]; simp; done)) | (refine Le.seq_eq ?_; first | omega | (rw [hH2, if_pos (by omega)]; simp [Ex.cellss_map]; done) | (rw [hH2, if_neg (by omega)]; simp; done))))
        · exact (by first | exact MLe.none _ | exact MLe.refl _ | (repeat' (first | exact MLe.nil | exact MLe.refl _ | refine MLe.cons _ ?_ | refine MLe.drop _ ?_)))
        rintro ⟨j, v⟩ hI
        try dsimp only at hI ⊢
        refine c_seq ?_
        refine c_seq ?_
        refine c_region ?_
        refine AOps.st 36 rfl rfl rfl (op_move rfl rfl ?_)
        refine AOps.st 37 rfl rfl rfl (op_fieldAddr_c rfl tf_60_5 rfl rfl ?_)
        refine AOps.st 38 rfl rfl rfl (op_load_c1 rfl ta_57 rfl rfl ?_)
        refine AOps.st 39 rfl rfl rfl (op_len rfl tu_57 rfl (.seq _ _) (fun n39 => ?_))
        refine AOps.st 40 rfl rfl rfl (op_lss rfl rfl rfl ?_); intro c40 h40
        refine AOps.nil ?_
        refine go_code ?_
        rcases bool_split h40 with ⟨rfl, g40⟩ | ⟨rfl, g40⟩
        · refine c_cond_f rfl ?_
          refine c_exit ?_
          refine x_code ?_
          refine x_lp ?_
          refine x_here ?_
          refine go_code ?_
          refine c_seq ?_
          refine c_region ?_
          refine AOps.st 52 rfl rfl rfl (op_move rfl rfl ?_)
          refine AOps.st 2 rfl rfl rfl (op_assign rfl rfl ?_)
          refine AOps.nil ?_
          refine go_code ?_
          refine c_ret ?_
          refine out_tmp rfl rfl (Le.own_eq ?_) (by first | exact MLe.none _ | exact MLe.refl _ | (repeat' (first | exact MLe.nil | exact MLe.refl _ | refine MLe.cons _ ?_ | refine MLe.drop _ ?_))) ⟨_, rfl, rfl⟩
          rw [List.take_of_length_le (by omega)]
        · refine c_cond_t rfl ?_
          refine c_skip ?_
          refine go_code ?_
          refine c_seq ?_
          refine c_block ?_
          obtain ⟨⟨⟨qk, qs, qn, qks, qp⟩, ⟨yk, yt, yn, ⟨ytk, yts, ytn, ytks⟩, yks, yal, ybs, yp⟩⟩, hx⟩ := get_some (l := al) (i := j) (by omega)
          have hcx := Al.cellss_get hx
          have e : Ex.cellss (H1 ++ bs.map Bi.e ++ H2 ++ (al.take j).map Al.e) ++ [Ex.cells ⟨yk, yt, yn, ⟨ytk, yts, ytn, ytks⟩, yks, yal, ybs, yp⟩] = Ex.cellss (H1 ++ bs.map Bi.e ++ H2 ++ (al.take (j + 1)).map Al.e) := by
            rw [List.take_add_one, hx]; simp [Ex.cellss_map, Al.e]
          have el2 : (Ex.cellss (H1 ++ bs.map Bi.e ++ H2 ++ (al.take j).map Al.e)).length ≤ H1.length + bs.length + H2.length + al.length := by
            rw [Ex.cellss_len]; simp; omega
          refine c_region ?_
          refine AOps.st 43 rfl rfl rfl (op_move rfl rfl ?_)
          refine AOps.st 44 rfl rfl rfl (op_fieldAddr_c rfl tf_60_5 rfl rfl ?_)
          refine AOps.st 45 rfl rfl rfl (op_load_c1 rfl ta_57 rfl rfl ?_)
          refine AOps.st 46 rfl rfl rfl (op_move rfl rfl ?_)
          refine AOps.st 47 rfl rfl rfl (op_index rfl te_57 rfl (.seq _ _) rfl rfl (by assumption) ?_)
          first | (refine AOps.st 48 rfl rfl rfl (op_fieldAddr_m rfl tf_70_1 rfl ?_)) | (refine AOps.st 48 rfl rfl rfl (op_fieldAddr_c rfl tf_70_1 rfl rfl ?_))
          first | (refine AOps.st 49 rfl rfl rfl (op_load_m (cs' := [_, _, _, _, _, _, _, _, _, _, _]) (i := 0) rfl ta_60 rfl rfl rfl rfl ?_)) | (refine AOps.st 49 rfl rfl rfl (op_load_m (cs' := [_, _, _, _, _, _, _, _, _, _, _]) (i := 1) rfl ta_60 rfl rfl rfl rfl ?_)) | (refine AOps.st 49 rfl rfl rfl (op_load_m (cs' := [_, _, _, _, _, _, _, _, _, _, _]) (i := 2) rfl ta_60 rfl rfl rfl rfl ?_)) | (refine AOps.st 49 rfl rfl rfl (op_load_m (cs' := [_, _, _, _, _, _, _, _, _, _, _]) (i := 3) rfl ta_60 rfl rfl rfl rfl ?_)) | (refine AOps.st 49 rfl rfl rfl (op_load_m (cs' := [_, _, _, _, _, _, _, _, _, _, _]) (i := 4) rfl ta_60 rfl rfl rfl rfl ?_)) | (refine AOps.st 49 rfl rfl rfl (op_load_m (cs' := [_, _, _, _, _, _, _, _, _, _, _]) (i := 5) rfl ta_60 rfl rfl rfl rfl ?_)) | (refine AOps.st 49 rfl rfl rfl (op_load_c (cs' := [_, _, _, _, _, _, _, _, _, _, _]) rfl ta_60 rfl rfl rfl ?_))
          refine AOps.st 50 rfl rfl rfl (op_buildSlice (xs := [.tmp 49]) el_56 rfl rfl rfl rfl rfl rfl (Nat.le_of_ble_eq_true rfl) ?_)
          refine AOps.st 51 rfl rfl rfl (op_append (i := 0) el_56 rfl rfl rfl rfl (.seq _ _) (by simp only [List.length_map, List.length_reverse, List.length_cons, List.length_nil]; omega) ?_)
          intro u51
          refine AOps.st 3 rfl rfl rfl (op_assign rfl rfl ?_)
          refine AOps.nil ?_
          refine go_blk ?_
          refine go_code ?_
          refine c_region ?_
          refine AOps.st 41 rfl rfl rfl (op_move rfl rfl ?_)
          refine AOps.st 42 rfl rfl rfl (op_add rfl rfl rfl (IntWalk.i64_in _ (by omega)) ?_)
          refine AOps.st 5 rfl rfl rfl (op_assign rfl rfl ?_)
          refine AOps.nil ?_
          refine go_lp ?_
          exact ⟨(j + 1, u51), by simp; omega, by simp; omega, (by repeat' (first | exact SLe.nil _ | refine SLe.cons rfl ?_ ?_ | exact Le.refl _ | exact Le.own _ _ _ | exact Le.nil _ | (refine Le.own_eq ?_; exact e) | (refine Le.own_seq ?_; exact e) | (refine Le.seq_eq ?_; exact e))), (by first | exact MLe.none _ | exact MLe.refl _ | (repeat' (first | exact MLe.nil | exact MLe.refl _ | refine MLe.cons _ ?_ | refine MLe.drop _ ?_)))⟩
      · refine c_cond_t rfl ?_
        refine c_region ?_
        refine AOps.st 32 rfl rfl rfl (op_move rfl rfl ?_)
        refine AOps.st 33 rfl rfl rfl (op_fieldAddr_c rfl tf_60_4 rfl rfl ?_)
        refine AOps.st 34 rfl rfl rfl (op_load_c1 rfl ta_56 rfl rfl ?_)
        refine AOps.st 35 rfl rfl rfl (op_append (i := 0) el_56 rfl rfl rfl rfl (.seq _ _) (by omega) ?_)
        intro u35
        refine AOps.st 3 rfl rfl rfl (op_assign rfl rfl ?_)
        refine AOps.nil ?_
        refine go_code ?_
        refine c_seq ?_
        refine c_seq ?_
        refine c_region ?_
        refine AOps.st 5 rfl rfl rfl (op_assign rfl rfl ?_)
        refine AOps.nil ?_
        refine go_code ?_
        refine c_block ?_
        refine c_loop (σ := Nat × Value) (fun zz => match zz with | (j, v) => [(1, .cptr (Ex.mk k s n ⟨tk, ts, tn, tks⟩ ks al bs p).cells), (3, .own v 11 (Ex.cellss (H1 ++ bs.map Bi.e ++ H2 ++ (al.take j).map Al.e))), (5, .val (.int .i64 j))]) (fun zz => match zz with | (j, v) => [.own 60 11 v]) (fun zz => match zz with | (j, v) => j ≤ al.length) (fun zz => match zz with | (j, v) => al.length - j) ((0, u35)) ?_ ?_ ?_ ?_
        · simp
        · exact (by repeat' (first | exact SLe.nil _ | refine SLe.cons rfl ?_ ?_ | exact Le.refl _ | exact Le.own _ _ _ | exact Le.nil _ | (refine Le.own_eq ?_; first | omega | (rw [hH2, if_pos (by omega)]; simp [Ex.cellss_map]; done) | (rw [hH2, if_neg (by omega)]; simp; done)) | (refine Le.own_seq ?_; first | omega | (rw [hH2, if_pos (by omega)]; simp [Ex.cellss_map]; done) | (rw [hH2, if_neg (by omega)]; simp; done)) | (refine Le.seq_eq ?_; first | omega | (rw [hH2, if_pos (by omega)]; simp [Ex.cellss_map]; done) | (rw [hH2, if_neg (by omega)]; simp; done))))
        · exact (by first | exact MLe.none _ | exact MLe.refl _ | (repeat' (first | exact MLe.nil | exact MLe.refl _ | refine MLe.cons _ ?_ | refine MLe.drop _ ?_)))
        rintro ⟨j, v⟩ hI
        try dsimp only at hI ⊢
        refine c_seq ?_
        refine c_seq ?_
        refine c_region ?_
        refine AOps.st 36 rfl rfl rfl (op_move rfl rfl ?_)
        refine AOps.st 37 rfl rfl rfl (op_fieldAddr_c rfl tf_60_5 rfl rfl ?_)
        refine AOps.st 38 rfl rfl rfl (op_load_c1 rfl ta_57 rfl rfl ?_)
        refine AOps.st 39 rfl rfl rfl (op_len rfl tu_57 rfl (.seq _ _) (fun n39 => ?_))
        refine AOps.st 40 rfl rfl rfl (op_lss rfl rfl rfl ?_); intro c40 h40
        refine AOps.nil ?_
        refine go_code ?_
        rcases bool_split h40 with ⟨rfl, g40⟩ | ⟨rfl, g40⟩
        · refine c_cond_f rfl ?_
          refine c_exit ?_
          refine x_code ?_
          refine x_lp ?_
          refine x_here ?_
          refine go_code ?_
          refine c_seq ?_
          refine c_region ?_
          refine AOps.st 52 rfl rfl rfl (op_move rfl rfl ?_)
          refine AOps.st 2 rfl rfl rfl (op_assign rfl rfl ?_)
          refine AOps.nil ?_
          refine go_code ?_
          refine c_ret ?_
          refine out_tmp rfl rfl (Le.own_eq ?_) (by first | exact MLe.none _ | exact MLe.refl _ | (repeat' (first | exact MLe.nil | exact MLe.refl _ | refine MLe.cons _ ?_ | refine MLe.drop _ ?_))) ⟨_, rfl, rfl⟩
          rw [List.take_of_length_le (by omega)]
        · refine c_cond_t rfl ?_
          refine c_skip ?_
          refine go_code ?_
          refine c_seq ?_
          refine c_block ?_
          obtain ⟨⟨⟨qk, qs, qn, qks, qp⟩, ⟨yk, yt, yn, ⟨ytk, yts, ytn, ytks⟩, yks, yal, ybs, yp⟩⟩, hx⟩ := get_some (l := al) (i := j) (by omega)
          have hcx := Al.cellss_get hx
          have e : Ex.cellss (H1 ++ bs.map Bi.e ++ H2 ++ (al.take j).map Al.e) ++ [Ex.cells ⟨yk, yt, yn, ⟨ytk, yts, ytn, ytks⟩, yks, yal, ybs, yp⟩] = Ex.cellss (H1 ++ bs.map Bi.e ++ H2 ++ (al.take (j + 1)).map Al.e) := by
            rw [List.take_add_one, hx]; simp [Ex.cellss_map, Al.e]
          have el2 : (Ex.cellss (H1 ++ bs.map Bi.e ++ H2 ++ (al.take j).map Al.e)).length ≤ H1.length + bs.length + H2.length + al.length := by
            rw [Ex.cellss_len]; simp; omega
          refine c_region ?_
          refine AOps.st 43 rfl rfl rfl (op_move rfl rfl ?_)
          refine AOps.st 44 rfl rfl rfl (op_fieldAddr_c rfl tf_60_5 rfl rfl ?_)
          refine AOps.st 45 rfl rfl rfl (op_load_c1 rfl ta_57 rfl rfl ?_)
          refine AOps.st 46 rfl rfl rfl (op_move rfl rfl ?_)
          refine AOps.st 47 rfl rfl rfl (op_index rfl te_57 rfl (.seq _ _) rfl rfl (by assumption) ?_)
          first | (refine AOps.st 48 rfl rfl rfl (op_fieldAddr_m rfl tf_70_1 rfl ?_)) | (refine AOps.st 48 rfl rfl rfl (op_fieldAddr_c rfl tf_70_1 rfl rfl ?_))
          first | (refine AOps.st 49 rfl rfl rfl (op_load_m (cs' := [_, _, _, _, _, _, _, _, _, _, _]) (i := 0) rfl ta_60 rfl rfl rfl rfl ?_)) | (refine AOps.st 49 rfl rfl rfl (op_load_m (cs' := [_, _, _, _, _, _, _, _, _, _, _]) (i := 1) rfl ta_60 rfl rfl rfl rfl ?_)) | (refine AOps.st 49 rfl rfl rfl (op_load_m (cs' := [_, _, _, _, _, _, _, _, _, _, _]) (i := 2) rfl ta_60 rfl rfl rfl rfl ?_)) | (refine AOps.st 49 rfl rfl rfl (op_load_m (cs' := [_, _, _, _, _, _, _, _, _, _, _]) (i := 3) rfl ta_60 rfl rfl rfl rfl ?_)) | (refine AOps.st 49 rfl rfl rfl (op_load_m (cs' := [_, _, _, _, _, _, _, _, _, _, _]) (i := 4) rfl ta_60 rfl rfl rfl rfl ?_)) | (refine AOps.st 49 rfl rfl rfl (op_load_m (cs' := [_, _, _, _, _, _, _, _, _, _, _]) (i := 5) rfl ta_60 rfl rfl rfl rfl ?_)) | (refine AOps.st 49 rfl rfl rfl (op_load_c (cs' := [_, _, _, _, _, _, _, _, _, _, _]) rfl ta_60 rfl rfl rfl ?_))
          refine AOps.st 50 rfl rfl rfl (op_buildSlice (xs := [.tmp 49]) el_56 rfl rfl rfl rfl rfl rfl (Nat.le_of_ble_eq_true rfl) ?_)
          refine AOps.st 51 rfl rfl rfl (op_append (i := 0) el_56 rfl rfl rfl rfl (.seq _ _) (by simp only [List.length_map, List.length_reverse, List.length_cons, List.length_nil]; omega) ?_)
          intro u51
          refine AOps.st 3 rfl rfl rfl (op_assign rfl rfl ?_)
          refine AOps.nil ?_
          refine go_blk ?_
          refine go_code ?_
          refine c_region ?_
          refine AOps.st 41 rfl rfl rfl (op_move rfl rfl ?_)
          refine AOps.st 42 rfl rfl rfl (op_add rfl rfl rfl (IntWalk.i64_in _ (by omega)) ?_)
          refine AOps.st 5 rfl rfl rfl (op_assign rfl rfl ?_)
          refine AOps.nil ?_
          refine go_lp ?_
          exact ⟨(j + 1, u51), by simp; omega, by simp; omega, (by repeat' (first | exact SLe.nil _ | refine SLe.cons rfl ?_ ?_ | exact Le.refl _ | exact Le.own _ _ _ | exact Le.nil _ | (refine Le.own_eq ?_; exact e) | (refine Le.own_seq ?_; exact e) | (refine Le.seq_eq ?_; exact e))), (by first | exact MLe.none _ | exact MLe.refl _ | (repeat' (first | exact MLe.nil | exact MLe.refl _ | refine MLe.cons _ ?_ | refine MLe.drop _ ?_)))⟩
    · refine c_cond_t rfl ?_
      refine c_skip ?_
      refine go_code ?_
      refine c_seq ?_
      refine c_block ?_
      obtain ⟨⟨ys, ⟨yk, yt, yn, ⟨ytk, yts, ytn, ytks⟩, yks, yal, ybs, yp⟩, yq⟩, hx⟩ := get_some (l := bs) (i := i) (by omega)
      have hcx := Bi.cellss_get hx
      have e : Ex.cellss (H1 ++ (bs.take i).map Bi.e) ++ [Ex.cells ⟨yk, yt, yn, ⟨ytk, yts, ytn, ytks⟩, yks, yal, ybs, yp⟩] = Ex.cellss (H1 ++ (bs.take (i + 1)).map Bi.e) := by
        rw [List.take_add_one, hx]; simp [Ex.cellss_map, Bi.e]
      have el : (Ex.cellss (H1 ++ (bs.take i).map Bi.e)).length ≤ H1.length + bs.length := by
        rw [Ex.cellss_len]; simp; omega
      refine c_region ?_
      refine AOps.st 20 rfl rfl rfl (op_move rfl rfl ?_)
      refine AOps.st 21 rfl rfl rfl (op_fieldAddr_c rfl tf_60_6 rfl rfl ?_)
      refine AOps.st 22 rfl rfl rfl (op_load_c1 rfl ta_58 rfl rfl ?_)
      refine AOps.st 23 rfl rfl rfl (op_move rfl rfl ?_)
      refine AOps.st 24 rfl rfl rfl (op_index rfl te_58 rfl (.seq _ _) rfl rfl (by assumption) ?_)
      first | (refine AOps.st 25 rfl rfl rfl (op_fieldAddr_m rfl tf_74_1 rfl ?_)) | (refine AOps.st 25 rfl rfl rfl (op_fieldAddr_c rfl tf_74_1 rfl rfl ?_))
      first | (refine AOps.st 26 rfl rfl rfl (op_load_m (cs' := [_, _, _, _, _, _, _, _, _, _, _]) (i := 0) rfl ta_60 rfl rfl rfl rfl ?_)) | (refine AOps.st 26 rfl rfl rfl (op_load_m (cs' := [_, _, _, _, _, _, _, _, _, _, _]) (i := 1) rfl ta_60 rfl rfl rfl rfl ?_)) | (refine AOps.st 26 rfl rfl rfl (op_load_m (cs' := [_, _, _, _, _, _, _, _, _, _, _]) (i := 2) rfl ta_60 rfl rfl rfl rfl ?_)) | (refine AOps.st 26 rfl rfl rfl (op_load_m (cs' := [_, _, _, _, _, _, _, _, _, _, _]) (i := 3) rfl ta_60 rfl rfl rfl rfl ?_)) | (refine AOps.st 26 rfl rfl rfl (op_load_m (cs' := [_, _, _, _, _, _, _, _, _, _, _]) (i := 4) rfl ta_60 rfl rfl rfl rfl ?_)) | (refine AOps.st 26 rfl rfl rfl (op_load_m (cs' := [_, _, _, _, _, _, _, _, _, _, _]) (i := 5) rfl ta_60 rfl rfl rfl rfl ?_)) | (refine AOps.st 26 rfl rfl rfl (op_load_c (cs' := [_, _, _, _, _, _, _, _, _, _, _]) rfl ta_60 rfl rfl rfl ?_))
      refine AOps.st 27 rfl rfl rfl (op_buildSlice (xs := [.tmp 26]) el_56 rfl rfl rfl rfl rfl rfl (Nat.le_of_ble_eq_true rfl) ?_)
      refine AOps.st 28 rfl rfl rfl (op_append (i := 0) el_56 rfl rfl rfl rfl (.seq _ _) (by simp only [List.length_map, List.length_reverse, List.length_cons, List.length_nil]; omega) ?_)
      intro u28
      refine AOps.st 3 rfl rfl rfl (op_assign rfl rfl ?_)
      refine AOps.nil ?_
      refine go_blk ?_
      refine go_code ?_
      refine c_region ?_
      refine AOps.st 18 rfl rfl rfl (op_move rfl rfl ?_)
      refine AOps.st 19 rfl rfl rfl (op_add rfl rfl rfl (IntWalk.i64_in _ (by omega)) ?_)
      refine AOps.st 4 rfl rfl rfl (op_assign rfl rfl ?_)
      refine AOps.nil ?_
      refine go_lp ?_
      exact ⟨(i + 1, u28), by simp; omega, by simp; omega, (by repeat' (first | exact SLe.nil _ | refine SLe.cons rfl ?_ ?_ | exact Le.refl _ | exact Le.own _ _ _ | exact Le.nil _ | (refine Le.own_eq ?_; exact e) | (refine Le.own_seq ?_; exact e) | (refine Le.seq_eq ?_; exact e))), (by first | exact MLe.none _ | exact MLe.refl _ | (repeat' (first | exact MLe.nil | exact MLe.refl _ | refine MLe.cons _ ?_ | refine MLe.drop _ ?_)))⟩
  · refine c_cond_t rfl ?_
    refine c_region ?_
    refine AOps.st 9 rfl rfl rfl (op_move rfl rfl ?_)
    refine AOps.st 10 rfl rfl rfl (op_fieldAddr_c rfl tf_60_4 rfl rfl ?_)
    refine AOps.st 11 rfl rfl rfl (op_load_c1 rfl ta_56 rfl rfl ?_)
    refine AOps.st 12 rfl rfl rfl (op_append (i := 0) el_56 rfl rfl rfl rfl (.seq _ _) (by simp only [List.length_nil]; omega) ?_)
    intro u12
    refine AOps.st 3 rfl rfl rfl (op_assign rfl rfl ?_)
    refine AOps.nil ?_
    refine go_code ?_
    refine c_seq ?_
    refine c_seq ?_
    refine c_region ?_
    refine AOps.st 4 rfl rfl rfl (op_assign rfl rfl ?_)
    refine AOps.nil ?_
    refine go_code ?_
    refine c_block ?_
    refine c_loop (σ := Nat × Value) (fun zz => match zz with | (i, u) => [(1, .cptr (Ex.mk k s n ⟨tk, ts, tn, tks⟩ ks al bs p).cells), (3, .own u 11 (Ex.cellss (H1 ++ (bs.take i).map Bi.e))), (4, .val (.int .i64 i))]) (fun zz => match zz with | (i, u) => [.own 60 11 u]) (fun zz => match zz with | (i, u) => i ≤ bs.length) (fun zz => match zz with | (i, u) => bs.length - i) ((0, u12)) ?_ ?_ ?_ ?_
    · simp
    · exact (by repeat' (first | exact SLe.nil _ | refine SLe.cons rfl ?_ ?_ | exact Le.refl _ | exact Le.own _ _ _ | exact Le.nil _ | (refine Le.own_eq ?_; first | (rw [hH1, if_neg (by omega)]; simp; done) | (rw [hH1, if_pos (by omega)]; rfl)) | (refine Le.own_seq ?_; first | (rw [hH1, if_neg (by omega)]; simp; done) | (rw [hH1, if_pos (by omega)]; rfl)) | (refine Le.seq_eq ?_; first | (rw [hH1, if_neg (by omega)]; simp; done) | (rw [hH1, if_pos (by omega)]; rfl))))
    · exact (by first | exact MLe.none _ | exact MLe.refl _ | (repeat' (first | exact MLe.nil | exact MLe.refl _ | refine MLe.cons _ ?_ | refine MLe.drop _ ?_)))
    rintro ⟨i, u⟩ hI
    try dsimp only at hI ⊢
    refine c_seq ?_
    refine c_seq ?_
    refine c_region ?_
    refine AOps.st 13 rfl rfl rfl (op_move rfl rfl ?_)
    refine AOps.st 14 rfl rfl rfl (op_fieldAddr_c rfl tf_60_6 rfl rfl ?_)
    refine AOps.st 15 rfl rfl rfl (op_load_c1 rfl ta_58 rfl rfl ?_)
    refine AOps.st 16 rfl rfl rfl (op_len rfl tu_58 rfl (.seq _ _) (fun n16 => ?_))
    refine AOps.st 17 rfl rfl rfl (op_lss rfl rfl rfl ?_); intro c17 h17
    refine AOps.nil ?_
    refine go_code ?_
    rcases bool_split h17 with ⟨rfl, g17⟩ | ⟨rfl, g17⟩
    · refine c_cond_f rfl ?_
      refine c_exit ?_
      refine x_code ?_
      refine x_lp ?_
      refine x_here ?_
      refine go_code ?_
      refine c_seq ?_
      refine c_seq ?_
      rw [List.take_of_length_le (by omega)]
      have el : (Ex.cellss (H1 ++ bs.map Bi.e)).length = H1.length + bs.length := by
        rw [Ex.cellss_len]; simp
      refine c_region ?_
      refine AOps.st 29 rfl rfl rfl (op_fieldAddr_c rfl tf_60_0 rfl rfl ?_)
      refine AOps.st 30 rfl rfl rfl (op_load_c1 rfl ta_3 rfl rfl ?_)
      refine AOps.st 31 rfl rfl rfl (op_eql rfl rfl rfl ?_); intro c31 h31
      refine AOps.nil ?_
      refine go_code ?_
      rcases bool_split h31 with ⟨rfl, g31⟩ | ⟨rfl, g31⟩
      · refine c_cond_f rfl ?_
        refine c_skip ?_
        refine go_code ?_
        refine c_seq ?_
        refine c_seq ?_
        refine c_region ?_
        refine AOps.st 5 rfl rfl rfl (op_assign rfl rfl ?_)
        refine AOps.nil ?_
        refine go_code ?_
        refine c_block ?_
        first | (refine c_loop (σ := Nat × Value) (fun zz => match zz with | (j, v) => [(1, .cptr (Ex.mk k s n ⟨tk, ts, tn, tks⟩ ks al bs p).cells), (3, .own v 11 (Ex.cellss (H1 ++ bs.map Bi.e ++ H2 ++ (al.take j).map Al.e))), (5, .val (.int .i64 j))]) (fun zz => match zz with | (j, v) => [.own 60 11 v]) (fun zz => match zz with | (j, v) => j ≤ al.length) (fun zz => match zz with | (j, v) => al.length - j) ((0, u35)) ?_ ?_ ?_ ?_) | (refine c_loop (σ := Nat × Value) (fun zz => match zz with | (j, v) => [(1, .cptr (Ex.mk k s n ⟨tk, ts, tn, tks⟩ ks al bs p).cells), (3, .own v 11 (Ex.cellss (H1 ++ bs.map Bi.e ++ H2 ++ (al.take j).map Al.e))), (5, .val (.int .i64 j))]) (fun zz => match zz with | (j, v) => [.own 60 11 v]) (fun zz => match zz with | (j, v) => j ≤ al.length) (fun zz => match zz with | (j, v) => al.length - j) ((0, u)) ?_ ?_ ?_ ?_)
        · simp
        · exact (by repeat' (first | exact SLe.nil _ | refine SLe.cons rfl ?_ ?_ | exact Le.refl _ | exact Le.own _ _ _ | exact Le.nil _ | (refine Le.own_eq ?_; first | omega | (rw [hH2, if_pos (by omega)]; simp [Ex.cellss_map]; done) | (rw [hH2, if_neg (by omega)]; simp; done)) | (refine Le.own_seq ?_; first | omega | (rw [hH2, if_pos (by omega)]; simp [Ex.cellss_map]; done) | (rw [hH2, if_neg (by omega)]; simp; done)) | (refine Le.seq_eq ?_; first | omega | (rw [hH2, if_pos (by omega)]; simp [Ex.cellss_map]; done) | (rw [hH2, if_neg (by omega)]; simp; done))))
        · exact (by first | exact MLe.none _ | exact MLe.refl _ | (repeat' (first | exact MLe.nil | exact MLe.refl _ | refine MLe.cons _ ?_ | refine MLe.drop _ ?_)))
        rintro ⟨j, v⟩ hI
        try dsimp only at hI ⊢
        refine c_seq ?_
        refine c_seq ?_
        refine c_region ?_
        refine AOps.st 36 rfl rfl rfl (op_move rfl rfl ?_)
        refine AOps.st 37 rfl rfl rfl (op_fieldAddr_c rfl tf_60_5 rfl rfl ?_)
        refine AOps.st 38 rfl rfl rfl (op_load_c1 rfl ta_57 rfl rfl ?_)
        refine AOps.st 39 rfl rfl rfl (op_len rfl tu_57 rfl (.seq _ _) (fun n39 => ?_))
        refine AOps.st 40 rfl rfl rfl (op_lss rfl rfl rfl ?_); intro c40 h40
        refine AOps.nil ?_
        refine go_code ?_
        rcases bool_split h40 with ⟨rfl, g40⟩ | ⟨rfl, g40⟩
        · refine c_cond_f rfl ?_
          refine c_exit ?_
          refine x_code ?_
          refine x_lp ?_
          refine x_here ?_
          refine go_code ?_
          refine c_seq ?_
          refine c_region ?_
          refine AOps.st 52 rfl rfl rfl (op_move rfl rfl ?_)
          refine AOps.st 2 rfl rfl rfl (op_assign rfl rfl ?_)
          refine AOps.nil ?_
          refine go_code ?_
          refine c_ret ?_
          refine out_tmp rfl rfl (Le.own_eq ?_) (by first | exact MLe.none _ | exact MLe.refl _ | (repeat' (first | exact MLe.nil | exact MLe.refl _ | refine MLe.cons _ ?_ | refine MLe.drop _ ?_))) ⟨_, rfl, rfl⟩
          rw [List.take_of_length_le (by omega)]
        · refine c_cond_t rfl ?_
          refine c_skip ?_
          refine go_code ?_
          refine c_seq ?_
          refine c_block ?_
          obtain ⟨⟨⟨qk, qs, qn, qks, qp⟩, ⟨yk, yt, yn, ⟨ytk, yts, ytn, ytks⟩, yks, yal, ybs, yp⟩⟩, hx⟩ := get_some (l := al) (i := j) (by omega)
          have hcx := Al.cellss_get hx
          have e : Ex.cellss (H1 ++ bs.map Bi.e ++ H2 ++ (al.take j).map Al.e) ++ [Ex.cells ⟨yk, yt, yn, ⟨ytk, yts, ytn, ytks⟩, yks, yal, ybs, yp⟩] = Ex.cellss (H1 ++ bs.map Bi.e ++ H2 ++ (al.take (j + 1)).map Al.e) := by
            rw [List.take_add_one, hx]; simp [Ex.cellss_map, Al.e]
          have el2 : (Ex.cellss (H1 ++ bs.map Bi.e ++ H2 ++ (al.take j).map Al.e)).length ≤ H1.length + bs.length + H2.length + al.length := by
            rw [Ex.cellss_len]; simp; omega
          refine c_region ?_
          refine AOps.st 43 rfl rfl rfl (op_move rfl rfl ?_)
          refine AOps.st 44 rfl rfl rfl (op_fieldAddr_c rfl tf_60_5 rfl rfl ?_)
          refine AOps.st 45 rfl rfl rfl (op_load_c1 rfl ta_57 rfl rfl ?_)
          refine AOps.st 46 rfl rfl rfl (op_move rfl rfl ?_)
          refine AOps.st 47 rfl rfl rfl (op_index rfl te_57 rfl (.seq _ _) rfl rfl (by assumption) ?_)
          first | (refine AOps.st 48 rfl rfl rfl (op_fieldAddr_m rfl tf_70_1 rfl ?_)) | (refine AOps.st 48 rfl rfl rfl (op_fieldAddr_c rfl tf_70_1 rfl rfl ?_))
          first | (refine AOps.st 49 rfl rfl rfl (op_load_m (cs' := [_, _, _, _, _, _, _, _, _, _, _]) (i := 0) rfl ta_60 rfl rfl rfl rfl ?_)) | (refine AOps.st 49 rfl rfl rfl (op_load_m (cs' := [_, _, _, _, _, _, _, _, _, _, _]) (i := 1) rfl ta_60 rfl rfl rfl rfl ?_)) | (refine AOps.st 49 rfl rfl rfl (op_load_m (cs' := [_, _, _, _, _, _, _, _, _, _, _]) (i := 2) rfl ta_60 rfl rfl rfl rfl ?_)) | (refine AOps.st 49 rfl rfl rfl (op_load_m (cs' := [_, _, _, _, _, _, _, _, _, _, _]) (i := 3) rfl ta_60 rfl rfl rfl rfl ?_)) | (refine AOps.st 49 rfl rfl rfl (op_load_m (cs' := [_, _, _, _, _, _, _, _, _, _, _]) (i := 4) rfl ta_60 rfl rfl rfl rfl ?_)) | (refine AOps.st 49 rfl rfl rfl (op_load_m (cs' := [_, _, _, _, _, _, _, _, _, _, _]) (i := 5) rfl ta_60 rfl rfl rfl rfl ?_)) | (refine AOps.st 49 rfl rfl rfl (op_load_c (cs' := [_, _, _, _, _, _, _, _, _, _, _]) rfl ta_60 rfl rfl rfl ?_))
          refine AOps.st 50 rfl rfl rfl (op_buildSlice (xs := [.tmp 49]) el_56 rfl rfl rfl rfl rfl rfl (Nat.le_of_ble_eq_true rfl) ?_)
          refine AOps.st 51 rfl rfl rfl (op_append (i := 0) el_56 rfl rfl rfl rfl (.seq _ _) (by simp only [List.length_map, List.length_reverse, List.length_cons, List.length_nil]; omega) ?_)
          intro u51
          refine AOps.st 3 rfl rfl rfl (op_assign rfl rfl ?_)
          refine AOps.nil ?_
          refine go_blk ?_
          refine go_code ?_
          refine c_region ?_
          refine AOps.st 41 rfl rfl rfl (op_move rfl rfl ?_)
          refine AOps.st 42 rfl rfl rfl (op_add rfl rfl rfl (IntWalk.i64_in _ (by omega)) ?_)
          refine AOps.st 5 rfl rfl rfl (op_assign rfl rfl ?_)
          refine AOps.nil ?_
          refine go_lp ?_
          exact ⟨(j + 1, u51), by simp; omega, by simp; omega, (by repeat' (first | exact SLe.nil _ | refine SLe.cons rfl ?_ ?_ | exact Le.refl _ | exact Le.own _ _ _ | exact Le.nil _ | (refine Le.own_eq ?_; exact e) | (refine Le.own_seq ?_; exact e) | (refine Le.seq_eq ?_; exact e))), (by first | exact MLe.none _ | exact MLe.refl _ | (repeat' (first | exact MLe.nil | exact MLe.refl _ | refine MLe.cons _ ?_ | refine MLe.drop _ ?_)))⟩
      · refine c_cond_t rfl ?_
        refine c_region ?_
        refine AOps.st 32 rfl rfl rfl (op_move rfl rfl ?_)
        refine AOps.st 33 rfl rfl rfl (op_fieldAddr_c rfl tf_60_4 rfl rfl ?_)
        refine AOps.st 34 rfl rfl rfl (op_load_c1 rfl ta_56 rfl rfl ?_)
        refine AOps.st 35 rfl rfl rfl (op_append (i := 0) el_56 rfl rfl rfl rfl (.seq _ _) (by omega) ?_)
        intro u35
        refine AOps.st 3 rfl rfl rfl (op_assign rfl rfl ?_)
        refine AOps.nil ?_
        refine go_code ?_
        refine c_seq ?_
        refine c_seq ?_
        refine c_region ?_
        refine AOps.st 5 rfl rfl rfl (op_assign rfl rfl ?_)
        refine AOps.nil ?_
        refine go_code ?_
        refine c_block ?_
        refine c_loop (σ := Nat × Value) (fun zz => match zz with | (j, v) => [(1, .cptr (Ex.mk k s n ⟨tk, ts, tn, tks⟩ ks al bs p).cells), (3, .own v 11 (Ex.cellss (H1 ++ bs.map Bi.e ++ H2 ++ (al.take j).map Al.e))), (5, .val (.int .i64 j))]) (fun zz => match zz with | (j, v) => [.own 60 11 v]) (fun zz => match zz with | (j, v) => j ≤ al.length) (fun zz => match zz with | (j, v) => al.length - j) ((0, u35)) ?_ ?_ ?_ ?_
        · simp
        · exact (by repeat' (first | exact SLe.nil _ | refine SLe.cons rfl ?_ ?_ | exact Le.refl _ | exact Le.own _ _ _ | exact Le.nil _ | (refine Le.own_eq ?_; first | omega | (rw [hH2, if_pos (by omega)]; simp [Ex.cellss_map]; done) | (rw [hH2, if_neg (by omega)]; simp; done)) | (refine Le.own_seq ?_; first | omega | (rw [hH2, if_pos (by omega)]; simp [Ex.cellss_map]; done) | (rw [hH2, if_neg (by omega)]; simp; done)) | (refine Le.seq_eq ?_; first | omega | (rw [hH2, if_pos (by omega)]; simp [Ex.cellss_map]; done) | (rw [hH2, if_neg (by omega)]; simp; done))))
        · exact (by first | exact MLe.none _ | exact MLe.refl _ | (repeat' (first | exact MLe.nil | exact MLe.refl _ | refine MLe.cons _ ?_ | refine MLe.drop _ ?_)))
        rintro ⟨j, v⟩ hI
        try dsimp only at hI ⊢
        refine c_seq ?_
        refine c_seq ?_
        refine c_region ?_
        refine AOps.st 36 rfl rfl rfl (op_move rfl rfl ?_)
        refine AOps.st 37 rfl rfl rfl (op_fieldAddr_c rfl tf_60_5 rfl rfl ?_)
        refine AOps.st 38 rfl rfl rfl (op_load_c1 rfl ta_57 rfl rfl ?_)
        refine AOps.st 39 rfl rfl rfl (op_len rfl tu_57 rfl (.seq _ _) (fun n39 => ?_))
        refine AOps.st 40 rfl rfl rfl (op_lss rfl rfl rfl ?_); intro c40 h40
        refine AOps.nil ?_
        refine go_code ?_
        rcases bool_split h40 with ⟨rfl, g40⟩ | ⟨rfl, g40⟩
        · refine c_cond_f rfl ?_
          refine c_exit ?_
          refine x_code ?_
          refine x_lp ?_
          refine x_here ?_
          refine go_code ?_
          refine c_seq ?_
          refine c_region ?_
          refine AOps.st 52 rfl rfl rfl (op_move rfl rfl ?_)
          refine AOps.st 2 rfl rfl rfl (op_assign rfl rfl ?_)
          refine AOps.nil ?_
          refine go_code ?_
          refine c_ret ?_
          refine out_tmp rfl rfl (Le.own_eq ?_) (by first | exact MLe.none _ | exact MLe.refl _ | (repeat' (first | exact MLe.nil | exact MLe.refl _ | refine MLe.cons _ ?_ | refine MLe.drop _ ?_))) ⟨_, rfl, rfl⟩
          rw [List.take_of_length_le (by omega)]
        · refine c_cond_t rfl ?_
          refine c_skip ?_
          refine go_code ?_
          refine c_seq ?_
          refine c_block ?_
          obtain ⟨⟨⟨qk, qs, qn, qks, qp⟩, ⟨yk, yt, yn, ⟨ytk, yts, ytn, ytks⟩, yks, yal, ybs, yp⟩⟩, hx⟩ := get_some (l := al) (i := j) (by omega)
          have hcx := Al.cellss_get hx
          have e : Ex.cellss (H1 ++ bs.map Bi.e ++ H2 ++ (al.take j).map Al.e) ++ [Ex.cells ⟨yk, yt, yn, ⟨ytk, yts, ytn, ytks⟩, yks, yal, ybs, yp⟩] = Ex.cellss (H1 ++ bs.map Bi.e ++ H2 ++ (al.take (j + 1)).map Al.e) := by
            rw [List.take_add_one, hx]; simp [Ex.cellss_map, Al.e]
          have el2 : (Ex.cellss (H1 ++ bs.map Bi.e ++ H2 ++ (al.take j).map Al.e)).length ≤ H1.length + bs.length + H2.length + al.length := by
            rw [Ex.cellss_len]; simp; omega
          refine c_region ?_
          refine AOps.st 43 rfl rfl rfl (op_move rfl rfl ?_)
          refine AOps.st 44 rfl rfl rfl (op_fieldAddr_c rfl tf_60_5 rfl rfl ?_)
          refine AOps.st 45 rfl rfl rfl (op_load_c1 rfl ta_57 rfl rfl ?_)
          refine AOps.st 46 rfl rfl rfl (op_move rfl rfl ?_)
          refine AOps.st 47 rfl rfl rfl (op_index rfl te_57 rfl (.seq _ _) rfl rfl (by assumption) ?_)
          first | (refine AOps.st 48 rfl rfl rfl (op_fieldAddr_m rfl tf_70_1 rfl ?_)) | (refine AOps.st 48 rfl rfl rfl (op_fieldAddr_c rfl tf_70_1 rfl rfl ?_))
          first | (refine AOps.st 49 rfl rfl rfl (op_load_m (cs' := [_, _, _, _, _, _, _, _, _, _, _]) (i := 0) rfl ta_60 rfl rfl rfl rfl ?_)) | (refine AOps.st 49 rfl rfl rfl (op_load_m (cs' := [_, _, _, _, _, _, _, _, _, _, _]) (i := 1) rfl ta_60 rfl rfl rfl rfl ?_)) | (refine AOps.st 49 rfl rfl rfl (op_load_m (cs' := [_, _, _, _, _, _, _, _, _, _, _]) (i := 2) rfl ta_60 rfl rfl rfl rfl ?_)) | (refine AOps.st 49 rfl rfl rfl (op_load_m (cs' := [_, _, _, _, _, _, _, _, _, _, _]) (i := 3) rfl ta_60 rfl rfl rfl rfl ?_)) | (refine AOps.st 49 rfl rfl rfl (op_load_m (cs' := [_, _, _, _, _, _, _, _, _, _, _]) (i := 4) rfl ta_60 rfl rfl rfl rfl ?_)) | (refine AOps.st 49 rfl rfl rfl (op_load_m (cs' := [_, _, _, _, _, _, _, _, _, _, _]) (i := 5) rfl ta_60 rfl rfl rfl rfl ?_)) | (refine AOps.st 49 rfl rfl rfl (op_load_c (cs' := [_, _, _, _, _, _, _, _, _, _, _]) rfl ta_60 rfl rfl rfl ?_))
          refine AOps.st 50 rfl rfl rfl (op_buildSlice (xs := [.tmp 49]) el_56 rfl rfl rfl rfl rfl rfl (Nat.le_of_ble_eq_true rfl) ?_)
          refine AOps.st 51 rfl rfl rfl (op_append (i := 0) el_56 rfl rfl rfl rfl (.seq _ _) (by simp only [List.length_map, List.length_reverse, List.length_cons, List.length_nil]; omega) ?_)
          intro u51
          refine AOps.st 3 rfl rfl rfl (op_assign rfl rfl ?_)
          refine AOps.nil ?_
          refine go_blk ?_
          refine go_code ?_
          refine c_region ?_
          refine AOps.st 41 rfl rfl rfl (op_move rfl rfl ?_)
          refine AOps.st 42 rfl rfl rfl (op_add rfl rfl rfl (IntWalk.i64_in _ (by omega)) ?_)
          refine AOps.st 5 rfl rfl rfl (op_assign rfl rfl ?_)
          refine AOps.nil ?_
          refine go_lp ?_
          exact ⟨(j + 1, u51), by simp; omega, by simp; omega, (by repeat' (first | exact SLe.nil _ | refine SLe.cons rfl ?_ ?_ | exact Le.refl _ | exact Le.own _ _ _ | exact Le.nil _ | (refine Le.own_eq ?_; exact e) | (refine Le.own_seq ?_; exact e) | (refine Le.seq_eq ?_; exact e))), (by first | exact MLe.none _ | exact MLe.refl _ | (repeat' (first | exact MLe.nil | exact MLe.refl _ | refine MLe.cons _ ?_ | refine MLe.drop _ ?_)))⟩
    · refine c_cond_t rfl ?_
      refine c_skip ?_
      refine go_code ?_
      refine c_seq ?_
      refine c_block ?_
      obtain ⟨⟨ys, ⟨yk, yt, yn, ⟨ytk, yts, ytn, ytks⟩, yks, yal, ybs, yp⟩, yq⟩, hx⟩ := get_some (l := bs) (i := i) (by omega)
      have hcx := Bi.cellss_get hx
      have e : Ex.cellss (H1 ++ (bs.take i).map Bi.e) ++ [Ex.cells ⟨yk, yt, yn, ⟨ytk, yts, ytn, ytks⟩, yks, yal, ybs, yp⟩] = Ex.cellss (H1 ++ (bs.take (i + 1)).map Bi.e) := by
        rw [List.take_add_one, hx]; simp [Ex.cellss_map, Bi.e]
      have el : (Ex.cellss (H1 ++ (bs.take i).map Bi.e)).length ≤ H1.length + bs.length := by
        rw [Ex.cellss_len]; simp; omega
      refine c_region ?_
      refine AOps.st 20 rfl rfl rfl (op_move rfl rfl ?_)
      refine AOps.st 21 rfl rfl rfl (op_fieldAddr_c rfl tf_60_6 rfl rfl ?_)
      refine AOps.st 22 rfl rfl rfl (op_load_c1 rfl ta_58 rfl rfl ?_)
      refine AOps.st 23 rfl rfl rfl (op_move rfl rfl ?_)
      refine AOps.st 24 rfl rfl rfl (op_index rfl te_58 rfl (.seq _ _) rfl rfl (by assumption) ?_)
      first | (refine AOps.st 25 rfl rfl rfl (op_fieldAddr_m rfl tf_74_1 rfl ?_)) | (refine AOps.st 25 rfl rfl rfl (op_fieldAddr_c rfl tf_74_1 rfl rfl ?_))
      first | (refine AOps.st 26 rfl rfl rfl (op_load_m (cs' := [_, _, _, _, _, _, _, _, _, _, _]) (i := 0) rfl ta_60 rfl rfl rfl rfl ?_)) | (refine AOps.st 26 rfl rfl rfl (op_load_m (cs' := [_, _, _, _, _, _, _, _, _, _, _]) (i := 1) rfl ta_60 rfl rfl rfl rfl ?_)) | (refine AOps.st 26 rfl rfl rfl (op_load_m (cs' := [_, _, _, _, _, _, _, _, _, _, _]) (i := 2) rfl ta_60 rfl rfl rfl rfl ?_)) | (refine AOps.st 26 rfl rfl rfl (op_load_m (cs' := [_, _, _, _, _, _, _, _, _, _, _]) (i := 3) rfl ta_60 rfl rfl rfl rfl ?_)) | (refine AOps.st 26 rfl rfl rfl (op_load_m (cs' := [_, _, _, _, _, _, _, _, _, _, _]) (i := 4) rfl ta_60 rfl rfl rfl rfl ?_)) | (refine AOps.st 26 rfl rfl rfl (op_load_m (cs' := [_, _, _, _, _, _, _, _, _, _, _]) (i := 5) rfl ta_60 rfl rfl rfl rfl ?_)) | (refine AOps.st 26 rfl rfl rfl (op_load_c (cs' := [_, _, _, _, _, _, _, _, _, _, _]) rfl ta_60 rfl rfl rfl ?_))
      refine AOps.st 27 rfl rfl rfl (op_buildSlice (xs := [.tmp 26]) el_56 rfl rfl rfl rfl rfl rfl (Nat.le_of_ble_eq_true rfl) ?_)
      refine AOps.st 28 rfl rfl rfl (op_append (i := 0) el_56 rfl rfl rfl rfl (.seq _ _) (by simp only [List.length_map, List.length_reverse, List.length_cons, List.length_nil]; omega) ?_)
      intro u28
      refine AOps.st 3 rfl rfl rfl (op_assign rfl rfl ?_)
      refine AOps.nil ?_
      refine go_blk ?_
      refine go_code ?_
      refine c_region ?_
      refine AOps.st 18 rfl rfl rfl (op_move rfl rfl ?_)
      refine AOps.st 19 rfl rfl rfl (op_add rfl rfl rfl (IntWalk.i64_in _ (by omega)) ?_)
      refine AOps.st 4 rfl rfl rfl (op_assign rfl rfl ?_)
      refine AOps.nil ?_
      refine go_lp ?_
      exact ⟨(i + 1, u28), by simp; omega, by simp; omega, (by repeat' (first | exact SLe.nil _ | refine SLe.cons rfl ?_ ?_ | exact Le.refl _ | exact Le.own _ _ _ | exact Le.nil _ | (refine Le.own_eq ?_; exact e) | (refine Le.own_seq ?_; exact e) | (refine Le.seq_eq ?_; exact e))), (by first | exact MLe.none _ | exact MLe.refl _ | (repeat' (first | exact MLe.nil | exact MLe.refl _ | refine MLe.cons _ ?_ | refine MLe.drop _ ?_)))⟩
end Go.Proofs.Ytjgjnheeohfmmaa
