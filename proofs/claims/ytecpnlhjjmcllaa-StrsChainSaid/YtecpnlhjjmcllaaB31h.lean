/- heap: empty, New, is, Used, Room, space.at, Look, place, Part. -/
import Derived.Test.YtecpnlhjjmcllaaB31w
import Derived.Test.YtecpnlhjjmcllaaP31
import Derived.Test.YtecpnlhjjmcllaaAL15
import Derived.Test.YtecpnlhjjmcllaaTF
namespace Go.Proofs.Ytecpnlhjjmcllaa
open Go.RowKit
def iv (x : Int) : List AV := [.val (.int .u64 x)]
def bv (b : Bool) : List AV := [.val (.bool b)]
/-- the cells of a heap: its spaces, the one in use first or last -/
def spc : Bool → AV → AV → AV → AV → AV → AV → List AV
  | false, s, n, w, b, x, y => [s, w, b, x, y, n]
  | true, s, n, w, b, x, y => [s, x, y, w, b, n]
abbrev nowV (now : Bool) : AV := .val (.int .i64 (if now then 1 else 0))
/-- a heap lies at b -/
def HeapAt (b : Nat) (sz : Int) (H : List HO) (M : Mem) : Prop :=
  ∃ (now : Bool) (gw cw gb cb : Nat) (x y : AV), M = [.loc b (spc now (.val (.int .i64 sz)) (nowV now) (.val (rowv gw (used H + 1) cw)) (.val (rowv gb (used H + 1) cb)) x y), .row 42 1 (rowv gw (used H + 1) cw) ((hw H).map iv), .row 4 1 (rowv gb (used H + 1) cb) ((hb H).map bv)]
set_option maxHeartbeats 4000000 in
set_option maxRecDepth 100000 in
theorem empty_c : ACall Try.prog 38 [] [] (fun v M' => ∃ g1 g2, v = .agg [.val (rowv g1 1 1), .val (rowv g2 1 1)] ∧ M' = [.row 4 1 (rowv g2 1 1) [bv false], .row 42 1 (rowv g1 1 1) [iv 0]]) := by
  refine ACall.enter Try.func38 rfl (by kernel_rfl) rfl (Nat.le_of_ble_eq_true rfl) ?_
  refine c_start ?_
  refine c_seq ?_
  refine c_region ?_
  refine AOps.st 0 rfl rfl rfl (op_alloce (cs' := [_, _]) rfl tz_77 rfl rfl ?_); intro b0
  refine AOps.nil ?_
  refine go_code ?_
  refine c_seq ?_
  refine c_region ?_
  refine AOps.st 1 rfl rfl rfl (op_buildSlice_row (xs := [.const (.int .u64 0)]) el_34 rfl rfl rfl rfl rfl rfl (Nat.le_of_ble_eq_true rfl) ?_); intro r1
  refine AOps.st 2 rfl rfl rfl (op_buildSlice_row (xs := [.const (.bool false)]) el_75 rfl rfl rfl rfl rfl rfl (Nat.le_of_ble_eq_true rfl) ?_); intro r2
  refine AOps.st 3 rfl rfl rfl (op_build (ns := [0, 1]) (xs := [.tmp 1, .tmp 2]) rfl tz_77 rfl tfl_77 rfl rfl rfl rfl ?_)
  first | (refine AOps.st0 rfl rfl (op_store (cs' := [_, _]) (i := 0) rfl ts_77 rfl rfl rfl rfl rfl (Nat.le_of_ble_eq_true rfl) rfl ?_)) | (refine AOps.st0 rfl rfl (op_store (cs' := [_, _]) (i := 1) rfl ts_77 rfl rfl rfl rfl rfl (Nat.le_of_ble_eq_true rfl) rfl ?_)) | (refine AOps.st0 rfl rfl (op_store (cs' := [_, _]) (i := 2) rfl ts_77 rfl rfl rfl rfl rfl (Nat.le_of_ble_eq_true rfl) rfl ?_)) | (refine AOps.st0 rfl rfl (op_store (cs' := [_, _]) (i := 3) rfl ts_77 rfl rfl rfl rfl rfl (Nat.le_of_ble_eq_true rfl) rfl ?_)) | (refine AOps.st0 rfl rfl (op_store (cs' := [_, _]) (i := 4) rfl ts_77 rfl rfl rfl rfl rfl (Nat.le_of_ble_eq_true rfl) rfl ?_)) | (refine AOps.st0 rfl rfl (op_store (cs' := [_, _]) (i := 5) rfl ts_77 rfl rfl rfl rfl rfl (Nat.le_of_ble_eq_true rfl) rfl ?_)) | (refine AOps.st0 rfl rfl (op_store (cs' := [_, _]) (i := 6) rfl ts_77 rfl rfl rfl rfl rfl (Nat.le_of_ble_eq_true rfl) rfl ?_)) | (refine AOps.st0 rfl rfl (op_store (cs' := [_, _]) (i := 7) rfl ts_77 rfl rfl rfl rfl rfl (Nat.le_of_ble_eq_true rfl) rfl ?_)) | (refine AOps.st0 rfl rfl (op_store (cs' := [_, _]) (i := 8) rfl ts_77 rfl rfl rfl rfl rfl (Nat.le_of_ble_eq_true rfl) rfl ?_)) | (refine AOps.st0 rfl rfl (op_store (cs' := [_, _]) (i := 9) rfl ts_77 rfl rfl rfl rfl rfl (Nat.le_of_ble_eq_true rfl) rfl ?_))
  refine AOps.nil ?_
  refine go_code ?_
  refine c_ret ?_
  exact out_cell (i := 2) rfl rfl rfl ta_77 rfl (Le.refl _) (by first | exact MLe.none _ | exact MLe.refl _ | (repeat' (first | exact MLe.nil | exact MLe.refl _ | refine MLe.cons _ ?_ | refine MLe.drop _ ?_))) ⟨_, _, rfl, rfl⟩
set_option maxHeartbeats 4000000 in
set_option maxRecDepth 100000 in
theorem New_c (sz : Int) : ACall Try.prog 12 [.val (.int .i64 sz)] [] (fun v M' => (1 ≤ sz ∧ sz ≤ 16777216 ∧ ∃ b, v = .tup [.ptr b 0, .val (.int .i64 0)] ∧ HeapAt b sz [] M') ∨ (¬ (1 ≤ sz ∧ sz ≤ 16777216) ∧ v = .tup [.val (.pointer none), .val (.int .i64 2)])) := by
  refine ACall.enter Try.func12 rfl (by kernel_rfl) rfl (Nat.le_of_ble_eq_true rfl) ?_
  refine c_start ?_
  refine c_seq ?_
  refine c_region ?_
  refine AOps.st 2 rfl rfl rfl (op_assign rfl rfl ?_)
  refine AOps.st 3 rfl rfl rfl (op_assign rfl rfl ?_)
  refine AOps.nil ?_
  refine go_code ?_
  refine c_seq ?_
  refine c_seq ?_
  refine c_bool 9 (¬ (1 ≤ sz ∧ sz ≤ 16777216)) ?_ _ _ rfl ?_
  · skip
    refine AOps.st 4 rfl rfl rfl (op_move rfl rfl ?_)
    refine AOps.st 5 rfl rfl rfl (op_lss rfl rfl rfl ?_); intro c5 h5
    refine AOps.st 6 rfl rfl rfl (op_move rfl rfl ?_)
    rcases bool_split h5 with ⟨rfl, g5⟩ | ⟨rfl, g5⟩
    · skip
      refine AOps.gt 7 rfl rfl rfl rfl rfl (op_move rfl rfl ?_)
      refine AOps.gt 8 rfl rfl rfl rfl rfl (op_gtr rfl rfl rfl ?_); intro c8 h8
      refine AOps.st 9 rfl rfl rfl (op_pick rfl rfl rfl ?_)
      refine AOps.nil ?_
      refine BoolQ.mk rfl ?_ (by repeat' (first | exact SLe.wo _ _ | exact SLe.refl _ | refine SLe.fresh rfl ?_)) (by first | exact MLe.none _ | exact MLe.refl _ | (repeat' (first | exact MLe.nil | exact MLe.refl _ | refine MLe.cons _ ?_ | refine MLe.drop _ ?_)))
      first | (simp_all; done) | (simp_all; omega)
    · skip
      refine AOps.gf 7 rfl rfl rfl rfl rfl ?_
      refine AOps.gf 8 rfl rfl rfl rfl rfl ?_
      refine AOps.st 9 rfl rfl rfl (op_pick rfl rfl rfl ?_)
      refine AOps.nil ?_
      refine BoolQ.mk rfl ?_ (by repeat' (first | exact SLe.wo _ _ | exact SLe.refl _ | refine SLe.fresh rfl ?_)) (by first | exact MLe.none _ | exact MLe.refl _ | (repeat' (first | exact MLe.nil | exact MLe.refl _ | refine MLe.cons _ ?_ | refine MLe.drop _ ?_)))
      first | (simp_all; done) | (simp_all; omega)
  intro c9 h9
  refine go_code ?_
  rcases bool_split h9 with ⟨rfl, g9⟩ | ⟨rfl, g9⟩
  · refine c_cond_f rfl ?_
    refine c_skip ?_
    refine go_code ?_
    refine c_seq ?_
    refine c_region ?_
    refine AOps.st 10 rfl rfl rfl (op_move rfl rfl ?_)
    refine AOps.st 11 rfl rfl rfl (op_callat [] (xs := [])  rfl rfl rfl empty_c (by first | exact Les.refl _ | (repeat' (first | exact Les.refl _ | refine Les.cons ?_ ?_ | exact Le.refl _ | exact Le.own _ _ _ | exact Le.nil _ | refine Le.agg ?_))) ?_)
    rintro v1 M1 ⟨g1, g2, rfl, rfl⟩
    refine AOps.st 12 rfl rfl rfl (op_callat [] (xs := [])  rfl rfl rfl empty_c (by first | exact Les.refl _ | (repeat' (first | exact Les.refl _ | refine Les.cons ?_ ?_ | exact Le.refl _ | exact Le.own _ _ _ | exact Le.nil _ | refine Le.agg ?_))) ?_)
    rintro v2 M2 ⟨g3, g4, rfl, rfl⟩
    refine AOps.st 13 rfl rfl rfl (op_build_arr (ns := [0, 1]) (xs := [.tmp 11, .tmp 12]) rfl tz_79 rfl tu_79 ts_77 rfl rfl rfl rfl ?_)
    refine AOps.st 14 rfl rfl rfl (op_build (ns := [0, 1]) (xs := [.tmp 10, .tmp 13]) rfl tz_81 rfl tfl_81 rfl rfl rfl rfl ?_)
    refine AOps.st 15 rfl rfl rfl (op_boxe (cs' := [_, _, _, _, _, _]) rfl rfl rfl rfl ?_); intro b15
    refine AOps.st 2 rfl rfl rfl (op_assign rfl rfl ?_)
    refine AOps.st 3 rfl rfl rfl (op_assign rfl rfl ?_)
    refine AOps.nil ?_
    refine go_code ?_
    refine ACode.perm (pick_perm (is := [0, 3, 2]) rfl) ?_
    refine c_ret ?_
    exact out_tt (M' := [_, _, _]) rfl rfl rfl (Le.refl _) (.cons _ (.cons _ (.cons _ (MLe.none _)))) (.inl ⟨by omega, by omega, _, rfl, false, g1, 1, g2, 1, _, _, rfl⟩)
  · refine c_cond_t rfl ?_
    refine c_seq ?_
    refine c_region ?_
    refine AOps.st 2 rfl rfl rfl (op_assign rfl rfl ?_)
    refine AOps.st 3 rfl rfl rfl (op_assign rfl rfl ?_)
    refine AOps.nil ?_
    refine go_code ?_
    refine c_ret ?_
    exact out_tt rfl rfl rfl (Le.refl _) (MLe.refl _) (.inr ⟨g9, rfl⟩)
set_option maxHeartbeats 4000000 in
set_option maxRecDepth 100000 in
theorem is_c (b : Nat) (sz : Int) (cs : List AV) (h0 : cs[0]? = some (.val (.int .i64 sz))) (h : 0 < sz) : KCall Try.prog 43 [.ptr b 0] [.loc b cs] (.val (.bool true)) := by
  match cs, h0 with
  | c :: cs, h0 => 
    cases h0
    refine ACall.enter Try.func43 rfl (by kernel_rfl) rfl (Nat.le_of_ble_eq_true rfl) ?_
    refine c_start ?_
    refine c_seq ?_
    refine c_region ?_
    refine AOps.st 2 rfl rfl rfl (op_assign rfl rfl ?_)
    refine AOps.nil ?_
    refine go_code ?_
    refine c_seq ?_
    refine c_bool 2 (True) ?_ _ _ rfl ?_
    · skip
      refine AOps.st 3 rfl rfl rfl (op_move rfl rfl ?_)
      first | (refine AOps.st 4 rfl rfl rfl (op_pneqc rfl tu_25 rfl (.m _ _) ?_)) | (refine AOps.st 4 rfl rfl rfl (op_pneqc rfl tu_25 rfl (.c _) ?_))
      intro c4 h4
      refine AOps.st 5 rfl rfl rfl (op_move rfl rfl ?_)
      rcases bool_split h4 with ⟨rfl, g4⟩ | ⟨rfl, g4⟩
      · skip
        refine AOps.gf 6 rfl rfl rfl rfl rfl ?_
        refine AOps.gf 7 rfl rfl rfl rfl rfl ?_
        refine AOps.gf 8 rfl rfl rfl rfl rfl ?_
        refine AOps.gf 9 rfl rfl rfl rfl rfl ?_
        refine AOps.gf 10 rfl rfl rfl rfl rfl ?_
        refine AOps.st 11 rfl rfl rfl (op_pick rfl rfl rfl ?_)
        refine AOps.st 2 rfl rfl rfl (op_assign rfl rfl ?_)
        refine AOps.nil ?_
        refine BoolQ.mk rfl ?_ (by repeat' (first | exact SLe.wo _ _ | exact SLe.refl _ | refine SLe.fresh rfl ?_)) (by first | exact MLe.none _ | exact MLe.refl _ | (repeat' (first | exact MLe.nil | exact MLe.refl _ | refine MLe.cons _ ?_ | refine MLe.drop _ ?_)))
        first | (simp_all; done) | (simp_all; omega)
      · skip
        refine AOps.gt 6 rfl rfl rfl rfl rfl (op_move rfl rfl ?_)
        first | (refine AOps.gt 7 rfl rfl rfl rfl rfl (op_nilCheck_m rfl rfl ?_)) | (refine AOps.gt 7 rfl rfl rfl rfl rfl (op_nilCheck_c rfl rfl ?_)) | (refine AOps.gt 7 rfl rfl rfl rfl rfl (op_nilCheck_f rfl rfl ?_))
        first | (refine AOps.gt 8 rfl rfl rfl rfl rfl (op_fieldAddr_m rfl tf_81_0 rfl ?_)) | (refine AOps.gt 8 rfl rfl rfl rfl rfl (op_fieldAddr_c rfl tf_81_0 rfl rfl ?_))
        first | (refine AOps.gt 9 rfl rfl rfl rfl rfl (op_load_m1 (i := 0) rfl ta_3 rfl rfl rfl ?_)) | (refine AOps.gt 9 rfl rfl rfl rfl rfl (op_load_m1 (i := 1) rfl ta_3 rfl rfl rfl ?_)) | (refine AOps.gt 9 rfl rfl rfl rfl rfl (op_load_m1 (i := 2) rfl ta_3 rfl rfl rfl ?_)) | (refine AOps.gt 9 rfl rfl rfl rfl rfl (op_load_m1 (i := 3) rfl ta_3 rfl rfl rfl ?_)) | (refine AOps.gt 9 rfl rfl rfl rfl rfl (op_load_m1 (i := 4) rfl ta_3 rfl rfl rfl ?_)) | (refine AOps.gt 9 rfl rfl rfl rfl rfl (op_load_m1 (i := 5) rfl ta_3 rfl rfl rfl ?_)) | (refine AOps.gt 9 rfl rfl rfl rfl rfl (op_load_m1 (i := 6) rfl ta_3 rfl rfl rfl ?_)) | (refine AOps.gt 9 rfl rfl rfl rfl rfl (op_load_m1 (i := 7) rfl ta_3 rfl rfl rfl ?_)) | (refine AOps.gt 9 rfl rfl rfl rfl rfl (op_load_m1 (i := 8) rfl ta_3 rfl rfl rfl ?_)) | (refine AOps.gt 9 rfl rfl rfl rfl rfl (op_load_m1 (i := 9) rfl ta_3 rfl rfl rfl ?_)) | (refine AOps.gt 9 rfl rfl rfl rfl rfl (op_load_c1 rfl ta_3 rfl rfl ?_))
        refine AOps.gt 10 rfl rfl rfl rfl rfl (op_gtr rfl rfl rfl ?_); intro c10 h10
        refine AOps.st 11 rfl rfl rfl (op_pick rfl rfl rfl ?_)
        refine AOps.st 2 rfl rfl rfl (op_assign rfl rfl ?_)
        refine AOps.nil ?_
        refine BoolQ.mk rfl ?_ (by repeat' (first | exact SLe.wo _ _ | exact SLe.refl _ | refine SLe.fresh rfl ?_)) (by first | exact MLe.none _ | exact MLe.refl _ | (repeat' (first | exact MLe.nil | exact MLe.refl _ | refine MLe.cons _ ?_ | refine MLe.drop _ ?_)))
        first | (simp_all; done) | (simp_all; omega)
    intro c2 h2
    refine go_code ?_
    refine c_ret ?_
    exact out_tmp rfl rfl (Le.refl _) (by first | exact MLe.none _ | exact MLe.refl _ | (repeat' (first | exact MLe.nil | exact MLe.refl _ | refine MLe.cons _ ?_ | refine MLe.drop _ ?_))) ⟨by simp_all, rfl⟩
set_option maxHeartbeats 4000000 in
set_option maxRecDepth 100000 in
theorem Used_c (b : Nat) (sz : Int) (H : List HO) (M : Mem) (hM : HeapAt b sz H M) (h : 0 < sz) (hmax : used H ≤ 16777216) : KCall Try.prog 15 [.ptr b 0] M (.val (.int .i64 (used H))) := by
  obtain ⟨now, gw, cw, gb, cb, x, y, rfl⟩ := hM
  cases now
  all_goals
    simp only [spc]
    refine ACall.enter Try.func15 rfl (by kernel_rfl) rfl (Nat.le_of_ble_eq_true rfl) ?_
    refine c_start ?_
    refine c_seq ?_
    refine c_region ?_
    refine AOps.st 2 rfl rfl rfl (op_assign rfl rfl ?_)
    refine AOps.nil ?_
    refine go_code ?_
    refine c_seq ?_
    refine c_seq ?_
    refine c_region ?_
    refine AOps.st 3 rfl rfl rfl (op_move rfl rfl ?_)
    refine AOps.st 4 rfl rfl rfl (op_callk (xs := [.tmp 3]) [0] rfl rfl rfl (is_c b sz _ rfl h) (by first | exact Les.refl _ | (repeat' (first | exact Les.refl _ | refine Les.cons ?_ ?_ | exact Le.refl _ | exact Le.own _ _ _ | exact Le.nil _ | refine Le.agg ?_))) ?_)
    refine AOps.st 5 rfl rfl rfl (op_notc rfl rfl ?_); intro c5 h5
    try replace h5 := nott h5 h4
    refine AOps.nil ?_
    refine go_code ?_
    rcases bool_split h5 with ⟨rfl, g5⟩ | ⟨rfl, g5⟩
    · refine c_cond_f rfl ?_
      refine c_skip ?_
      refine go_code ?_
      refine c_seq ?_
      refine c_drawn tmix rfl ?_
      refine DOps.st 6 rfl rfl (op_move rfl rfl ⟨rfl, rfl⟩) ?_
      refine DOps.st 7 rfl rfl (op_move rfl rfl ⟨rfl, rfl⟩) ?_
      first | (refine DOps.st 8 rfl rfl (op_nilCheck_m rfl rfl ⟨rfl, rfl⟩) ?_) | (refine DOps.st 8 rfl rfl (op_nilCheck_c rfl rfl ⟨rfl, rfl⟩) ?_) | (refine DOps.st 8 rfl rfl (op_nilCheck_f rfl rfl ⟨rfl, rfl⟩) ?_)
      first | (refine DOps.st 9 rfl rfl (op_fieldAddr_m rfl tf_81_2 rfl ⟨rfl, rfl⟩) ?_) | (refine DOps.st 9 rfl rfl (op_fieldAddr_c rfl tf_81_2 rfl rfl ⟨rfl, rfl⟩) ?_)
      first | (refine DOps.st 10 rfl rfl (op_load_m1 (i := 0) rfl ta_3 rfl rfl rfl ⟨rfl, rfl⟩) ?_) | (refine DOps.st 10 rfl rfl (op_load_m1 (i := 1) rfl ta_3 rfl rfl rfl ⟨rfl, rfl⟩) ?_) | (refine DOps.st 10 rfl rfl (op_load_m1 (i := 2) rfl ta_3 rfl rfl rfl ⟨rfl, rfl⟩) ?_) | (refine DOps.st 10 rfl rfl (op_load_m1 (i := 3) rfl ta_3 rfl rfl rfl ⟨rfl, rfl⟩) ?_) | (refine DOps.st 10 rfl rfl (op_load_m1 (i := 4) rfl ta_3 rfl rfl rfl ⟨rfl, rfl⟩) ?_) | (refine DOps.st 10 rfl rfl (op_load_m1 (i := 5) rfl ta_3 rfl rfl rfl ⟨rfl, rfl⟩) ?_) | (refine DOps.st 10 rfl rfl (op_load_m1 (i := 6) rfl ta_3 rfl rfl rfl ⟨rfl, rfl⟩) ?_) | (refine DOps.st 10 rfl rfl (op_load_m1 (i := 7) rfl ta_3 rfl rfl rfl ⟨rfl, rfl⟩) ?_) | (refine DOps.st 10 rfl rfl (op_load_m1 (i := 8) rfl ta_3 rfl rfl rfl ⟨rfl, rfl⟩) ?_) | (refine DOps.st 10 rfl rfl (op_load_m1 (i := 9) rfl ta_3 rfl rfl rfl ⟨rfl, rfl⟩) ?_) | (refine DOps.st 10 rfl rfl (op_load_c1 rfl ta_3 rfl rfl ⟨rfl, rfl⟩) ?_)
      first | (refine DOps.st 11 rfl rfl (op_nilCheck_m rfl rfl ⟨rfl, rfl⟩) ?_) | (refine DOps.st 11 rfl rfl (op_nilCheck_c rfl rfl ⟨rfl, rfl⟩) ?_) | (refine DOps.st 11 rfl rfl (op_nilCheck_f rfl rfl ⟨rfl, rfl⟩) ?_)
      first | (refine DOps.st 12 rfl rfl (op_fieldAddr_m rfl tf_81_1 rfl ⟨rfl, rfl⟩) ?_) | (refine DOps.st 12 rfl rfl (op_fieldAddr_c rfl tf_81_1 rfl rfl ⟨rfl, rfl⟩) ?_)
      first | (refine DOps.st 13 rfl rfl (op_index_arrm (k := 0) rfl tu_79 ts_77 rfl rfl rfl (by decide) ⟨rfl, rfl⟩) ?_) | (refine DOps.st 13 rfl rfl (op_index_arrm (k := 1) rfl tu_79 ts_77 rfl rfl rfl (by decide) ⟨rfl, rfl⟩) ?_)
      first | (refine DOps.st 14 rfl rfl (op_fieldAddr_m rfl tf_77_0 rfl ⟨rfl, rfl⟩) ?_) | (refine DOps.st 14 rfl rfl (op_fieldAddr_c rfl tf_77_0 rfl rfl ⟨rfl, rfl⟩) ?_)
      first | (refine DOps.st 15 rfl rfl (op_load_m1 (i := 0) rfl ta_34 rfl rfl rfl ⟨rfl, rfl⟩) ?_) | (refine DOps.st 15 rfl rfl (op_load_m1 (i := 1) rfl ta_34 rfl rfl rfl ⟨rfl, rfl⟩) ?_) | (refine DOps.st 15 rfl rfl (op_load_m1 (i := 2) rfl ta_34 rfl rfl rfl ⟨rfl, rfl⟩) ?_) | (refine DOps.st 15 rfl rfl (op_load_m1 (i := 3) rfl ta_34 rfl rfl rfl ⟨rfl, rfl⟩) ?_) | (refine DOps.st 15 rfl rfl (op_load_m1 (i := 4) rfl ta_34 rfl rfl rfl ⟨rfl, rfl⟩) ?_) | (refine DOps.st 15 rfl rfl (op_load_m1 (i := 5) rfl ta_34 rfl rfl rfl ⟨rfl, rfl⟩) ?_) | (refine DOps.st 15 rfl rfl (op_load_m1 (i := 6) rfl ta_34 rfl rfl rfl ⟨rfl, rfl⟩) ?_) | (refine DOps.st 15 rfl rfl (op_load_m1 (i := 7) rfl ta_34 rfl rfl rfl ⟨rfl, rfl⟩) ?_) | (refine DOps.st 15 rfl rfl (op_load_m1 (i := 8) rfl ta_34 rfl rfl rfl ⟨rfl, rfl⟩) ?_) | (refine DOps.st 15 rfl rfl (op_load_m1 (i := 9) rfl ta_34 rfl rfl rfl ⟨rfl, rfl⟩) ?_) | (refine DOps.st 15 rfl rfl (op_load_c1 rfl ta_34 rfl rfl ⟨rfl, rfl⟩) ?_)
      refine DOps.st 16 rfl rfl (op_len_val rfl tu_34 rfl ⟨rfl, rfl⟩) ?_
      first | (refine DOps.st 17 rfl rfl (op_sub rfl rfl rfl (IntWalk.i64_in _ (by omega)) ⟨rfl, rfl⟩) ?_) | (refine DOps.st 17 rfl rfl (op_sub rfl rfl rfl rfl ⟨rfl, rfl⟩) ?_)
      refine DOps.st 2 rfl rfl (op_assign rfl rfl ⟨rfl, rfl⟩) ?_
      show AGo _ _ _ _ _ _ _
      refine go_code ?_
      refine c_ret ?_
      exact out_tmp rfl rfl (Le.ieq (by omega)) (by first | exact MLe.none _ | exact MLe.refl _ | (repeat' (first | exact MLe.nil | exact MLe.refl _ | refine MLe.cons _ ?_ | refine MLe.drop _ ?_))) ⟨rfl, rfl⟩
    · refine c_cond_t rfl ?_
      refine c_seq ?_
      exact absurd h5 (by simp)
set_option maxHeartbeats 4000000 in
set_option maxRecDepth 100000 in
theorem Room_c (b : Nat) (sz n : Int) (H : List HO) (M : Mem) (hM : HeapAt b sz H M) (h : 0 < sz) (hs : sz ≤ 16777216) (hmax : used H ≤ 16777216) : KBCall Try.prog 25 [.ptr b 0, .val (.int .i64 n)] M (0 ≤ n ∧ n + used H ≤ sz) := by
  have hU := Used_c b sz H M hM h hmax
  obtain ⟨now, gw, cw, gb, cb, x, y, rfl⟩ := hM
  cases now
  all_goals
    simp only [spc] at hU ⊢
    refine ACall.enter Try.func25 rfl (by kernel_rfl) rfl (Nat.le_of_ble_eq_true rfl) ?_
    refine c_start ?_
    refine c_seq ?_
    refine c_region ?_
    refine AOps.st 4 rfl rfl rfl (op_assign rfl rfl ?_)
    refine AOps.nil ?_
    refine go_code ?_
    refine c_seq ?_
    refine c_boold 4 (0 ≤ n ∧ n + used H ≤ sz) tmix rfl ?_ _ _ rfl ?_
    · skip
      refine DOps.st 5 rfl rfl (op_move rfl rfl ⟨rfl, rfl⟩) ?_
      refine DOps.st 6 rfl rfl (op_callk (xs := [.tmp 5]) [0] rfl rfl rfl (is_c b sz _ rfl h) (by first | exact Les.refl _ | (repeat' (first | exact Les.refl _ | refine Les.cons ?_ ?_ | exact Le.refl _ | exact Le.own _ _ _ | exact Le.nil _ | refine Le.agg ?_))) ⟨rfl, rfl⟩) ?_
      refine DOps.st 7 rfl rfl (op_move rfl rfl ⟨rfl, rfl⟩) ?_
      refine DOps.gt 8 rfl rfl rfl rfl (op_move rfl rfl ⟨rfl, rfl⟩) ?_
      refine DOps.gtc 9 rfl rfl rfl rfl (fun _ q => op_geq rfl rfl rfl q) ?_; intro c9 h9
      refine DOps.st 10 rfl rfl (op_pick rfl rfl rfl ⟨rfl, rfl⟩) ?_
      refine DOps.st 11 rfl rfl (op_move rfl rfl ⟨rfl, rfl⟩) ?_
      rcases bool_split h9 with ⟨rfl, g9⟩ | ⟨rfl, g9⟩
      · skip
        refine DOps.gf 12 rfl rfl rfl rfl ?_
        refine DOps.gf 13 rfl rfl rfl rfl ?_
        refine DOps.gf 14 rfl rfl rfl rfl ?_
        refine DOps.gf 15 rfl rfl rfl rfl ?_
        refine DOps.gf 16 rfl rfl rfl rfl ?_
        refine DOps.gf 17 rfl rfl rfl rfl ?_
        refine DOps.gf 18 rfl rfl rfl rfl ?_
        refine DOps.gf 19 rfl rfl rfl rfl ?_
        refine DOps.gf 20 rfl rfl rfl rfl ?_
        refine DOps.st 21 rfl rfl (op_pick rfl rfl rfl ⟨rfl, rfl⟩) ?_
        refine DOps.st 4 rfl rfl (op_assign rfl rfl ⟨rfl, rfl⟩) ?_
        show BoolQ _ _ _ _ _ _
        refine BoolQ.mk rfl ?_ (by repeat' (first | exact SLe.wo _ _ | exact SLe.refl _ | refine SLe.fresh rfl ?_)) (by first | exact MLe.none _ | exact MLe.refl _ | (repeat' (first | exact MLe.nil | exact MLe.refl _ | refine MLe.cons _ ?_ | refine MLe.drop _ ?_)))
        first | (simp_all; done) | (simp_all; omega)
      · skip
        refine DOps.gt 12 rfl rfl rfl rfl (op_move rfl rfl ⟨rfl, rfl⟩) ?_
        refine DOps.gt 13 rfl rfl rfl rfl (op_move rfl rfl ⟨rfl, rfl⟩) ?_
        first | (refine DOps.gt 14 rfl rfl rfl rfl (op_nilCheck_m rfl rfl ⟨rfl, rfl⟩) ?_) | (refine DOps.gt 14 rfl rfl rfl rfl (op_nilCheck_c rfl rfl ⟨rfl, rfl⟩) ?_) | (refine DOps.gt 14 rfl rfl rfl rfl (op_nilCheck_f rfl rfl ⟨rfl, rfl⟩) ?_)
        first | (refine DOps.gt 15 rfl rfl rfl rfl (op_fieldAddr_m rfl tf_81_0 rfl ⟨rfl, rfl⟩) ?_) | (refine DOps.gt 15 rfl rfl rfl rfl (op_fieldAddr_c rfl tf_81_0 rfl rfl ⟨rfl, rfl⟩) ?_)
        first | (refine DOps.gt 16 rfl rfl rfl rfl (op_load_m1 (i := 0) rfl ta_3 rfl rfl rfl ⟨rfl, rfl⟩) ?_) | (refine DOps.gt 16 rfl rfl rfl rfl (op_load_m1 (i := 1) rfl ta_3 rfl rfl rfl ⟨rfl, rfl⟩) ?_) | (refine DOps.gt 16 rfl rfl rfl rfl (op_load_m1 (i := 2) rfl ta_3 rfl rfl rfl ⟨rfl, rfl⟩) ?_) | (refine DOps.gt 16 rfl rfl rfl rfl (op_load_m1 (i := 3) rfl ta_3 rfl rfl rfl ⟨rfl, rfl⟩) ?_) | (refine DOps.gt 16 rfl rfl rfl rfl (op_load_m1 (i := 4) rfl ta_3 rfl rfl rfl ⟨rfl, rfl⟩) ?_) | (refine DOps.gt 16 rfl rfl rfl rfl (op_load_m1 (i := 5) rfl ta_3 rfl rfl rfl ⟨rfl, rfl⟩) ?_) | (refine DOps.gt 16 rfl rfl rfl rfl (op_load_m1 (i := 6) rfl ta_3 rfl rfl rfl ⟨rfl, rfl⟩) ?_) | (refine DOps.gt 16 rfl rfl rfl rfl (op_load_m1 (i := 7) rfl ta_3 rfl rfl rfl ⟨rfl, rfl⟩) ?_) | (refine DOps.gt 16 rfl rfl rfl rfl (op_load_m1 (i := 8) rfl ta_3 rfl rfl rfl ⟨rfl, rfl⟩) ?_) | (refine DOps.gt 16 rfl rfl rfl rfl (op_load_m1 (i := 9) rfl ta_3 rfl rfl rfl ⟨rfl, rfl⟩) ?_) | (refine DOps.gt 16 rfl rfl rfl rfl (op_load_c1 rfl ta_3 rfl rfl ⟨rfl, rfl⟩) ?_)
        refine DOps.gt 17 rfl rfl rfl rfl (op_move rfl rfl ⟨rfl, rfl⟩) ?_
        refine DOps.gt 18 rfl rfl rfl rfl (op_callk (xs := [.tmp 17]) [0, 0, 0] rfl rfl rfl (hU) (by first | exact Les.refl _ | (repeat' (first | exact Les.refl _ | refine Les.cons ?_ ?_ | exact Le.refl _ | exact Le.own _ _ _ | exact Le.nil _ | refine Le.agg ?_))) ⟨rfl, rfl⟩) ?_
        first | (refine DOps.gt 19 rfl rfl rfl rfl (op_sub rfl rfl rfl (IntWalk.i64_in _ (by omega)) ⟨rfl, rfl⟩) ?_) | (refine DOps.gt 19 rfl rfl rfl rfl (op_sub rfl rfl rfl rfl ⟨rfl, rfl⟩) ?_)
        refine DOps.gtc 20 rfl rfl rfl rfl (fun _ q => op_leq rfl rfl rfl q) ?_; intro c20 h20
        refine DOps.st 21 rfl rfl (op_pick rfl rfl rfl ⟨rfl, rfl⟩) ?_
        refine DOps.st 4 rfl rfl (op_assign rfl rfl ⟨rfl, rfl⟩) ?_
        show BoolQ _ _ _ _ _ _
        refine BoolQ.mk rfl ?_ (by repeat' (first | exact SLe.wo _ _ | exact SLe.refl _ | refine SLe.fresh rfl ?_)) (by first | exact MLe.none _ | exact MLe.refl _ | (repeat' (first | exact MLe.nil | exact MLe.refl _ | refine MLe.cons _ ?_ | refine MLe.drop _ ?_)))
        first | (simp_all; done) | (simp_all; omega)
    intro c4 h4
    refine go_code ?_
    refine c_ret ?_
    exact out_tmp rfl rfl (Le.refl _) (by first | exact MLe.none _ | exact MLe.refl _ | (repeat' (first | exact MLe.nil | exact MLe.refl _ | refine MLe.cons _ ?_ | refine MLe.drop _ ?_))) ⟨⟨_, h4, rfl⟩, rfl⟩
/-- does an object begin at the address of a word? -/
def atB (B : List Bool) (w : Int) : Bool := atOk w && decide (1 ≤ atV w) && decide (atV w < B.length) && (B.getD (atV w).toNat false)
set_option maxHeartbeats 4000000 in
set_option maxRecDepth 100000 in
theorem at_c (now : Bool) (b : Nat) (s n x y : AV) (gw cw gb cb k : Nat) (W : List Int) (B : List Bool) (w : Int) (h0 : 0 ≤ w) (h1 : w ≤ 18446744073709551615) (hW : W.length = k) (hB : B.length = k) : KCall Try.prog 44 [.ptr b (if now then 3 else 1), .val (.int .u64 w)] [.loc b (spc now s n (.val (rowv gw k cw)) (.val (rowv gb k cb)) x y), .row 42 1 (rowv gw k cw) (W.map iv), .row 4 1 (rowv gb k cb) (B.map bv)] (.tup [.val (.int .i64 (if atB B w then atV w else 0)), .val (.bool (atB B w))]) := by
  have hp := At_p w h0 h1
  obtain ⟨a, ha⟩ : ∃ a : Nat, atV w = (a : Int) := ⟨(atV w).toNat, by have : 0 ≤ atV w := (by unfold atV; split <;> omega); omega⟩
  have ha2 : a ≤ 4294967296 := by have : atV w ≤ 4294967296 := (by unfold atV atOk; split <;> simp_all <;> omega); omega
  have hb : a < k → (B.map bv)[a]? = some [.val (.bool (B.getD a false))] := fun q => by
    rw [List.getElem?_map, List.getElem?_eq_getElem (by omega), List.getD_eq_getElem?_getD, List.getElem?_eq_getElem (by omega)]; rfl
  have hat : atB B w = true ↔ atOk w = true ∧ 1 ≤ a ∧ a < k ∧ B.getD a false = true := by
    simp only [atB, ha, hB, Bool.and_eq_true, decide_eq_true_eq]
    rw [show ((a : Int).toNat) = a from rfl]
    constructor
    · rintro ⟨⟨⟨q1, q2⟩, q3⟩, q4⟩; exact ⟨q1, by omega, by omega, q4⟩
    · rintro ⟨q1, q2, q3, q4⟩; exact ⟨⟨⟨q1, by omega⟩, by omega⟩, q4⟩
  have hlW : (W.map iv).length = k := by simpa using hW
  have hlB : (B.map bv).length = k := by simpa using hB
  rw [ha] at hp ⊢
  generalize B.getD a false = bb at *
  generalize W.map iv = EW at *
  generalize B.map bv = EB at *
  generalize atOk w = ao at *
  generalize atB B w = r at *
  cases now
  all_goals
    simp only [spc, Bool.false_eq_true, if_false, if_true]
    refine ACall.enter Try.func44 rfl (by kernel_rfl) rfl (Nat.le_of_ble_eq_true rfl) ?_
    refine c_start ?_
    refine c_seq ?_
    refine c_region ?_
    refine AOps.st 4 rfl rfl rfl (op_assign rfl rfl ?_)
    refine AOps.st 5 rfl rfl rfl (op_assign rfl rfl ?_)
    refine AOps.nil ?_
    refine go_code ?_
    refine c_seq ?_
    refine c_region ?_
    refine AOps.st 9 rfl rfl rfl (op_move rfl rfl ?_)
    refine AOps.st 10 rfl rfl rfl (op_callp (xs := [.tmp 9]) rfl rfl (hp) (by first | exact Les.refl _ | (repeat' (first | exact Les.refl _ | refine Les.cons ?_ ?_ | exact Le.refl _ | exact Le.own _ _ _ | exact Le.nil _ | refine Le.agg ?_))) ?_)
    refine AOps.st 8 rfl rfl rfl (op_move rfl rfl ?_)
    refine AOps.st 11 rfl rfl rfl (op_extract rfl rfl rfl ?_)
    refine AOps.st 12 rfl rfl rfl (op_extract rfl rfl rfl ?_)
    refine AOps.st 6 rfl rfl rfl (op_assign rfl rfl ?_)
    refine AOps.st 7 rfl rfl rfl (op_assign rfl rfl ?_)
    refine AOps.nil ?_
    refine go_code ?_
    refine c_seq ?_
    refine c_seq ?_
    refine c_bool 37 (¬ (r = true)) ?_ _ _ rfl ?_
    · skip
      refine AOps.st 13 rfl rfl rfl (op_move rfl rfl ?_)
      refine AOps.st 14 rfl rfl rfl (op_notc rfl rfl ?_); intro c14 h14
      try replace h14 := nott h14 h12
      refine AOps.st 15 rfl rfl rfl (op_move rfl rfl ?_)
      rcases bool_split h14 with ⟨rfl, g14⟩ | ⟨rfl, g14⟩
      · skip
        refine AOps.gt 16 rfl rfl rfl rfl rfl (op_move rfl rfl ?_)
        refine AOps.gt 17 rfl rfl rfl rfl rfl (op_lss rfl rfl rfl ?_); intro c17 h17
        refine AOps.st 18 rfl rfl rfl (op_pick rfl rfl rfl ?_)
        refine AOps.st 19 rfl rfl rfl (op_move rfl rfl ?_)
        rcases bool_split h17 with ⟨rfl, g17⟩ | ⟨rfl, g17⟩
        · skip
          refine AOps.gt 20 rfl rfl rfl rfl rfl (op_move rfl rfl ?_)
          refine AOps.gt 21 rfl rfl rfl rfl rfl (op_move rfl rfl ?_)
          first | (refine AOps.gt 22 rfl rfl rfl rfl rfl (op_nilCheck_m rfl rfl ?_)) | (refine AOps.gt 22 rfl rfl rfl rfl rfl (op_nilCheck_c rfl rfl ?_)) | (refine AOps.gt 22 rfl rfl rfl rfl rfl (op_nilCheck_f rfl rfl ?_))
          first | (refine AOps.gt 23 rfl rfl rfl rfl rfl (op_fieldAddr_m rfl tf_77_0 rfl ?_)) | (refine AOps.gt 23 rfl rfl rfl rfl rfl (op_fieldAddr_c rfl tf_77_0 rfl rfl ?_))
          first | (refine AOps.gt 24 rfl rfl rfl rfl rfl (op_load_m1 (i := 0) rfl ta_34 rfl rfl rfl ?_)) | (refine AOps.gt 24 rfl rfl rfl rfl rfl (op_load_m1 (i := 1) rfl ta_34 rfl rfl rfl ?_)) | (refine AOps.gt 24 rfl rfl rfl rfl rfl (op_load_m1 (i := 2) rfl ta_34 rfl rfl rfl ?_)) | (refine AOps.gt 24 rfl rfl rfl rfl rfl (op_load_m1 (i := 3) rfl ta_34 rfl rfl rfl ?_)) | (refine AOps.gt 24 rfl rfl rfl rfl rfl (op_load_m1 (i := 4) rfl ta_34 rfl rfl rfl ?_)) | (refine AOps.gt 24 rfl rfl rfl rfl rfl (op_load_m1 (i := 5) rfl ta_34 rfl rfl rfl ?_)) | (refine AOps.gt 24 rfl rfl rfl rfl rfl (op_load_m1 (i := 6) rfl ta_34 rfl rfl rfl ?_)) | (refine AOps.gt 24 rfl rfl rfl rfl rfl (op_load_m1 (i := 7) rfl ta_34 rfl rfl rfl ?_)) | (refine AOps.gt 24 rfl rfl rfl rfl rfl (op_load_m1 (i := 8) rfl ta_34 rfl rfl rfl ?_)) | (refine AOps.gt 24 rfl rfl rfl rfl rfl (op_load_m1 (i := 9) rfl ta_34 rfl rfl rfl ?_)) | (refine AOps.gt 24 rfl rfl rfl rfl rfl (op_load_c1 rfl ta_34 rfl rfl ?_))
          refine AOps.gt 25 rfl rfl rfl rfl rfl (op_len_val rfl tu_34 rfl ?_)
          refine AOps.gt 26 rfl rfl rfl rfl rfl (op_geq rfl rfl rfl ?_); intro c26 h26
          refine AOps.st 27 rfl rfl rfl (op_pick rfl rfl rfl ?_)
          refine AOps.st 28 rfl rfl rfl (op_move rfl rfl ?_)
          rcases bool_split h26 with ⟨rfl, g26⟩ | ⟨rfl, g26⟩
          · skip
            refine AOps.gt 29 rfl rfl rfl rfl rfl (op_move rfl rfl ?_)
            first | (refine AOps.gt 30 rfl rfl rfl rfl rfl (op_nilCheck_m rfl rfl ?_)) | (refine AOps.gt 30 rfl rfl rfl rfl rfl (op_nilCheck_c rfl rfl ?_)) | (refine AOps.gt 30 rfl rfl rfl rfl rfl (op_nilCheck_f rfl rfl ?_))
            first | (refine AOps.gt 31 rfl rfl rfl rfl rfl (op_fieldAddr_m rfl tf_77_1 rfl ?_)) | (refine AOps.gt 31 rfl rfl rfl rfl rfl (op_fieldAddr_c rfl tf_77_1 rfl rfl ?_))
            first | (refine AOps.gt 32 rfl rfl rfl rfl rfl (op_load_m1 (i := 0) rfl ta_75 rfl rfl rfl ?_)) | (refine AOps.gt 32 rfl rfl rfl rfl rfl (op_load_m1 (i := 1) rfl ta_75 rfl rfl rfl ?_)) | (refine AOps.gt 32 rfl rfl rfl rfl rfl (op_load_m1 (i := 2) rfl ta_75 rfl rfl rfl ?_)) | (refine AOps.gt 32 rfl rfl rfl rfl rfl (op_load_m1 (i := 3) rfl ta_75 rfl rfl rfl ?_)) | (refine AOps.gt 32 rfl rfl rfl rfl rfl (op_load_m1 (i := 4) rfl ta_75 rfl rfl rfl ?_)) | (refine AOps.gt 32 rfl rfl rfl rfl rfl (op_load_m1 (i := 5) rfl ta_75 rfl rfl rfl ?_)) | (refine AOps.gt 32 rfl rfl rfl rfl rfl (op_load_m1 (i := 6) rfl ta_75 rfl rfl rfl ?_)) | (refine AOps.gt 32 rfl rfl rfl rfl rfl (op_load_m1 (i := 7) rfl ta_75 rfl rfl rfl ?_)) | (refine AOps.gt 32 rfl rfl rfl rfl rfl (op_load_m1 (i := 8) rfl ta_75 rfl rfl rfl ?_)) | (refine AOps.gt 32 rfl rfl rfl rfl rfl (op_load_m1 (i := 9) rfl ta_75 rfl rfl rfl ?_)) | (refine AOps.gt 32 rfl rfl rfl rfl rfl (op_load_c1 rfl ta_75 rfl rfl ?_))
            refine AOps.gt 33 rfl rfl rfl rfl rfl (op_move rfl rfl ?_)
            refine AOps.gt 34 rfl rfl rfl rfl rfl (op_index_row (i := 2) (k := a) rfl te_75 rfl rfl rfl (by first | rfl | omega) (by omega) ?_)
            refine AOps.gt 35 rfl rfl rfl rfl rfl (op_load_row1 (i := 2) (k := a) (f := 0) rfl ta_4 rfl rfl rfl (hb (by omega)) rfl ?_)
            refine AOps.gt 36 rfl rfl rfl rfl rfl (op_notc rfl rfl ?_); intro c36 h36
            try replace h36 := nott h36 h35
            refine AOps.st 37 rfl rfl rfl (op_pick rfl rfl rfl ?_)
            refine AOps.nil ?_
            refine BoolQ.mk rfl ?_ (by repeat' (first | exact SLe.wo _ _ | exact SLe.refl _ | refine SLe.fresh rfl ?_)) (by first | exact MLe.none _ | exact MLe.refl _ | (repeat' (first | exact MLe.nil | exact MLe.refl _ | refine MLe.cons _ ?_ | refine MLe.drop _ ?_)))
            first | (simp_all; done) | (simp_all; omega)
          · skip
            refine AOps.gf 29 rfl rfl rfl rfl rfl ?_
            refine AOps.gf 30 rfl rfl rfl rfl rfl ?_
            refine AOps.gf 31 rfl rfl rfl rfl rfl ?_
            refine AOps.gf 32 rfl rfl rfl rfl rfl ?_
            refine AOps.gf 33 rfl rfl rfl rfl rfl ?_
            refine AOps.gf 34 rfl rfl rfl rfl rfl ?_
            refine AOps.gf 35 rfl rfl rfl rfl rfl ?_
            refine AOps.gf 36 rfl rfl rfl rfl rfl ?_
            refine AOps.st 37 rfl rfl rfl (op_pick rfl rfl rfl ?_)
            refine AOps.nil ?_
            refine BoolQ.mk rfl ?_ (by repeat' (first | exact SLe.wo _ _ | exact SLe.refl _ | refine SLe.fresh rfl ?_)) (by first | exact MLe.none _ | exact MLe.refl _ | (repeat' (first | exact MLe.nil | exact MLe.refl _ | refine MLe.cons _ ?_ | refine MLe.drop _ ?_)))
            first | (simp_all; done) | (simp_all; omega)
        · skip
          refine AOps.gf 20 rfl rfl rfl rfl rfl ?_
          refine AOps.gf 21 rfl rfl rfl rfl rfl ?_
          refine AOps.gf 22 rfl rfl rfl rfl rfl ?_
          refine AOps.gf 23 rfl rfl rfl rfl rfl ?_
          refine AOps.gf 24 rfl rfl rfl rfl rfl ?_
          refine AOps.gf 25 rfl rfl rfl rfl rfl ?_
          refine AOps.gf 26 rfl rfl rfl rfl rfl ?_
          refine AOps.st 27 rfl rfl rfl (op_pick rfl rfl rfl ?_)
          refine AOps.st 28 rfl rfl rfl (op_move rfl rfl ?_)
          refine AOps.gf 29 rfl rfl rfl rfl rfl ?_
          refine AOps.gf 30 rfl rfl rfl rfl rfl ?_
          refine AOps.gf 31 rfl rfl rfl rfl rfl ?_
          refine AOps.gf 32 rfl rfl rfl rfl rfl ?_
          refine AOps.gf 33 rfl rfl rfl rfl rfl ?_
          refine AOps.gf 34 rfl rfl rfl rfl rfl ?_
          refine AOps.gf 35 rfl rfl rfl rfl rfl ?_
          refine AOps.gf 36 rfl rfl rfl rfl rfl ?_
          refine AOps.st 37 rfl rfl rfl (op_pick rfl rfl rfl ?_)
          refine AOps.nil ?_
          refine BoolQ.mk rfl ?_ (by repeat' (first | exact SLe.wo _ _ | exact SLe.refl _ | refine SLe.fresh rfl ?_)) (by first | exact MLe.none _ | exact MLe.refl _ | (repeat' (first | exact MLe.nil | exact MLe.refl _ | refine MLe.cons _ ?_ | refine MLe.drop _ ?_)))
          first | (simp_all; done) | (simp_all; omega)
      · skip
        refine AOps.gf 16 rfl rfl rfl rfl rfl ?_
        refine AOps.gf 17 rfl rfl rfl rfl rfl ?_
        refine AOps.st 18 rfl rfl rfl (op_pick rfl rfl rfl ?_)
        refine AOps.st 19 rfl rfl rfl (op_move rfl rfl ?_)
        refine AOps.gf 20 rfl rfl rfl rfl rfl ?_
        refine AOps.gf 21 rfl rfl rfl rfl rfl ?_
        refine AOps.gf 22 rfl rfl rfl rfl rfl ?_
        refine AOps.gf 23 rfl rfl rfl rfl rfl ?_
        refine AOps.gf 24 rfl rfl rfl rfl rfl ?_
        refine AOps.gf 25 rfl rfl rfl rfl rfl ?_
        refine AOps.gf 26 rfl rfl rfl rfl rfl ?_
        refine AOps.st 27 rfl rfl rfl (op_pick rfl rfl rfl ?_)
        refine AOps.st 28 rfl rfl rfl (op_move rfl rfl ?_)
        refine AOps.gf 29 rfl rfl rfl rfl rfl ?_
        refine AOps.gf 30 rfl rfl rfl rfl rfl ?_
        refine AOps.gf 31 rfl rfl rfl rfl rfl ?_
        refine AOps.gf 32 rfl rfl rfl rfl rfl ?_
        refine AOps.gf 33 rfl rfl rfl rfl rfl ?_
        refine AOps.gf 34 rfl rfl rfl rfl rfl ?_
        refine AOps.gf 35 rfl rfl rfl rfl rfl ?_
        refine AOps.gf 36 rfl rfl rfl rfl rfl ?_
        refine AOps.st 37 rfl rfl rfl (op_pick rfl rfl rfl ?_)
        refine AOps.nil ?_
        refine BoolQ.mk rfl ?_ (by repeat' (first | exact SLe.wo _ _ | exact SLe.refl _ | refine SLe.fresh rfl ?_)) (by first | exact MLe.none _ | exact MLe.refl _ | (repeat' (first | exact MLe.nil | exact MLe.refl _ | refine MLe.cons _ ?_ | refine MLe.drop _ ?_)))
        first | (simp_all; done) | (simp_all; omega)
    intro c37 h37
    refine go_code ?_
    rcases bool_split h37 with ⟨rfl, g37⟩ | ⟨rfl, g37⟩
    · refine c_cond_f rfl ?_
      refine c_skip ?_
      refine go_code ?_
      refine c_seq ?_
      refine c_region ?_
      refine AOps.st 38 rfl rfl rfl (op_move rfl rfl ?_)
      refine AOps.st 4 rfl rfl rfl (op_assign rfl rfl ?_)
      refine AOps.st 5 rfl rfl rfl (op_assign rfl rfl ?_)
      refine AOps.nil ?_
      refine go_code ?_
      refine c_ret ?_
      exact out_tt rfl rfl rfl (Le.refl _) (by first | exact MLe.none _ | exact MLe.refl _ | (repeat' (first | exact MLe.nil | exact MLe.refl _ | refine MLe.cons _ ?_ | refine MLe.drop _ ?_))) ⟨by simp_all, rfl⟩
    · refine c_cond_t rfl ?_
      refine c_seq ?_
      refine c_region ?_
      refine AOps.st 4 rfl rfl rfl (op_assign rfl rfl ?_)
      refine AOps.st 5 rfl rfl rfl (op_assign rfl rfl ?_)
      refine AOps.nil ?_
      refine go_code ?_
      refine c_ret ?_
      exact out_tt rfl rfl rfl ((by repeat' (first | exact Le.refl _ | exact Le.own _ _ _ | exact Le.nil _ | refine Le.agg ?_ | refine Le.tup ?_ | exact Les.refl _ | refine Les.cons ?_ ?_))) (by first | exact MLe.none _ | exact MLe.refl _ | (repeat' (first | exact MLe.nil | exact MLe.refl _ | refine MLe.cons _ ?_ | refine MLe.drop _ ?_))) ⟨by simp_all, rfl⟩
end Go.Proofs.Ytecpnlhjjmcllaa
