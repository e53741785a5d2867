/- cognatelaw08.awake -/
import Derived.Test.YtjgjnheeohfmmaaB08m
import Derived.Test.YtjgjnheeohfmmaaB08l
import Derived.Test.YtjgjnheeohfmmaaB08d
namespace Go.Proofs.Ytjgjnheeohfmmaa
open Go.RowKit
abbrev tA : Ty := .mk 1 ⟨#[97]⟩ 0 []
abbrev tI : Ty := .mk 3 ⟨#[73, 110, 116]⟩ 0 []
abbrev fn2 (a b : Ty) : Ty := .mk 3 arrow 0 [a, b]
theorem mt_awake : mt ([], []) (fn2 tA tA) (fn2 tI tI) = some ([⟨#[97]⟩], [tI]) := by
  rw [mt_con (by decide), if_pos ⟨rfl, rfl, rfl⟩]
  show mts ([], []) [tA, tA] [tI, tI] = _
  rw [mts, mt_var, if_neg (by simp [firstAt])]
  show mts ([⟨#[97]⟩], [tI]) [tA] [tI] = _
  rw [mts, mt_var, if_pos (by simp [firstAt])]
  simp only [firstAt, if_true]
  rw [if_pos (by rfl)]
  show mts ([⟨#[97]⟩], [tI]) [] [] = _
  rw [mts, if_pos rfl]
set_option maxRecDepth 100000 in
theorem awake08_c : PCall Try.prog 12 [] (.val (.bool true)) := by
  have hM : PCall Try.prog 14 [.agg (fn2 tA tA).cells, .agg (fn2 tI tI).cells] (.tup [.seq 1 (strs [⟨#[97]⟩]), .seq 4 (Ty.cellss [tI]), .val (.bool true)]) := by
    refine (Match_c (fn2 tA tA) (fn2 tI tI) (.mk _ _ _ _ (by intro h; cases h) (by intro t ht; simp at ht; subst ht; exact .mk _ _ _ _ (fun _ => ⟨rfl, rfl⟩) (by simp))) (by simp [Ty.size, Ty.sizes]) (by simp [Ty.size, Ty.sizes])).mono ?_
    rintro v M' ⟨rfl, h⟩
    rcases h with ⟨st, h1, rfl⟩ | ⟨h1, _⟩
    · rw [mt_awake] at h1
      cases h1
      exact ⟨rfl, rfl⟩
    · rw [mt_awake] at h1; cases h1
  have hA : PCall Try.prog 24 [.agg (fn2 tA (fn2 tI tA)).cells] (.tup [.seq 4 (Ty.cellss [tA, tI]), .agg tA.cells]) := by
    have := Args_c (fn2 tA (fn2 tI tA)) (by simp [Ty.size, Ty.sizes])
    rw [Ty.args_fun, Ty.args_fun, Ty.ans_fun, Ty.ans_fun, Ty.args_not (t := tA) (by rintro ⟨h, _⟩; cases h), Ty.ans_not (t := tA) (by rintro ⟨h, _⟩; cases h)] at this
    exact this
  have hL : letter 27 = ⟨#[98, 49]⟩ := by decide +kernel
  refine ACall.enter Try.func12 rfl (by kernel_rfl) rfl (Nat.le_of_ble_eq_true rfl) ?_
  refine c_start ?_
  refine c_seq ?_
  refine c_region ?_
  refine AOps.st 0 rfl rfl rfl (op_assign rfl rfl ?_)
  refine AOps.nil ?_
  refine go_code ?_
  refine c_seq ?_
  refine c_region ?_
  refine AOps.st 8 rfl rfl rfl (op_build (ns := [0, 1]) (xs := [.const (.int .i64 1), .const (.string ⟨#[97]⟩)]) rfl tz_24 rfl tfl_24 rfl rfl rfl rfl ?_)
  refine AOps.st 9 rfl rfl rfl (op_callp (xs := [.const (.string ⟨#[73, 110, 116]⟩), .const (.slice none 0 0)]) rfl rfl (Con_c ⟨#[73, 110, 116]⟩ [] (by simp)) (by first | exact Les.refl _ | (repeat' (first | exact Les.refl _ | refine Les.cons ?_ ?_ | exact Le.refl _ | exact Le.own _ _ _ | exact Le.nil _ | refine Le.agg ?_))) ?_)
  refine AOps.st 1 rfl rfl rfl (op_alloc rfl tz_24 rfl ?_); intro b1
  refine AOps.st 2 rfl rfl rfl (op_alloc rfl tz_24 rfl ?_); intro b2
  first | (refine AOps.st0 rfl rfl (op_store (i := 0) rfl ts_24 rfl rfl rfl rfl rfl (Nat.le_of_ble_eq_true rfl) rfl ?_)) | (refine AOps.st0 rfl rfl (op_store (i := 1) rfl ts_24 rfl rfl rfl rfl rfl (Nat.le_of_ble_eq_true rfl) rfl ?_)) | (refine AOps.st0 rfl rfl (op_store (i := 2) rfl ts_24 rfl rfl rfl rfl rfl (Nat.le_of_ble_eq_true rfl) rfl ?_)) | (refine AOps.st0 rfl rfl (op_store (i := 3) rfl ts_24 rfl rfl rfl rfl rfl (Nat.le_of_ble_eq_true rfl) rfl ?_)) | (refine AOps.st0 rfl rfl (op_store (i := 4) rfl ts_24 rfl rfl rfl rfl rfl (Nat.le_of_ble_eq_true rfl) rfl ?_)) | (refine AOps.st0 rfl rfl (op_store (i := 5) rfl ts_24 rfl rfl rfl rfl rfl (Nat.le_of_ble_eq_true rfl) rfl ?_))
  first | (refine AOps.st0 rfl rfl (op_store (i := 0) rfl ts_24 rfl rfl rfl rfl rfl (Nat.le_of_ble_eq_true rfl) rfl ?_)) | (refine AOps.st0 rfl rfl (op_store (i := 1) rfl ts_24 rfl rfl rfl rfl rfl (Nat.le_of_ble_eq_true rfl) rfl ?_)) | (refine AOps.st0 rfl rfl (op_store (i := 2) rfl ts_24 rfl rfl rfl rfl rfl (Nat.le_of_ble_eq_true rfl) rfl ?_)) | (refine AOps.st0 rfl rfl (op_store (i := 3) rfl ts_24 rfl rfl rfl rfl rfl (Nat.le_of_ble_eq_true rfl) rfl ?_)) | (refine AOps.st0 rfl rfl (op_store (i := 4) rfl ts_24 rfl rfl rfl rfl rfl (Nat.le_of_ble_eq_true rfl) rfl ?_)) | (refine AOps.st0 rfl rfl (op_store (i := 5) rfl ts_24 rfl rfl rfl rfl rfl (Nat.le_of_ble_eq_true rfl) rfl ?_))
  refine AOps.nil ?_
  refine go_code ?_
  refine c_seq ?_
  refine c_drawn tmix rfl ?_
  first | (refine DOps.st 11 rfl rfl (op_load_m (i := 0) rfl ta_24 rfl rfl rfl rfl ⟨rfl, rfl⟩) ?_) | (refine DOps.st 11 rfl rfl (op_load_m (i := 1) rfl ta_24 rfl rfl rfl rfl ⟨rfl, rfl⟩) ?_) | (refine DOps.st 11 rfl rfl (op_load_m (i := 2) rfl ta_24 rfl rfl rfl rfl ⟨rfl, rfl⟩) ?_) | (refine DOps.st 11 rfl rfl (op_load_m (i := 3) rfl ta_24 rfl rfl rfl rfl ⟨rfl, rfl⟩) ?_) | (refine DOps.st 11 rfl rfl (op_load_m (i := 4) rfl ta_24 rfl rfl rfl rfl ⟨rfl, rfl⟩) ?_) | (refine DOps.st 11 rfl rfl (op_load_m (i := 5) rfl ta_24 rfl rfl rfl rfl ⟨rfl, rfl⟩) ?_) | (refine DOps.st 11 rfl rfl (op_load_c rfl ta_24 rfl rfl rfl ⟨rfl, rfl⟩) ?_)
  first | (refine DOps.st 12 rfl rfl (op_load_m (i := 0) rfl ta_24 rfl rfl rfl rfl ⟨rfl, rfl⟩) ?_) | (refine DOps.st 12 rfl rfl (op_load_m (i := 1) rfl ta_24 rfl rfl rfl rfl ⟨rfl, rfl⟩) ?_) | (refine DOps.st 12 rfl rfl (op_load_m (i := 2) rfl ta_24 rfl rfl rfl rfl ⟨rfl, rfl⟩) ?_) | (refine DOps.st 12 rfl rfl (op_load_m (i := 3) rfl ta_24 rfl rfl rfl rfl ⟨rfl, rfl⟩) ?_) | (refine DOps.st 12 rfl rfl (op_load_m (i := 4) rfl ta_24 rfl rfl rfl rfl ⟨rfl, rfl⟩) ?_) | (refine DOps.st 12 rfl rfl (op_load_m (i := 5) rfl ta_24 rfl rfl rfl rfl ⟨rfl, rfl⟩) ?_) | (refine DOps.st 12 rfl rfl (op_load_c rfl ta_24 rfl rfl rfl ⟨rfl, rfl⟩) ?_)
  refine DOps.st 13 rfl rfl (op_callp (xs := [.tmp 11, .tmp 12]) rfl rfl (Fun_c tA tA) (by first | exact Les.refl _ | (repeat' (first | exact Les.refl _ | refine Les.cons ?_ ?_ | exact Le.refl _ | exact Le.own _ _ _ | exact Le.nil _ | refine Le.agg ?_))) ⟨rfl, rfl⟩) ?_
  first | (refine DOps.st 14 rfl rfl (op_load_m (i := 0) rfl ta_24 rfl rfl rfl rfl ⟨rfl, rfl⟩) ?_) | (refine DOps.st 14 rfl rfl (op_load_m (i := 1) rfl ta_24 rfl rfl rfl rfl ⟨rfl, rfl⟩) ?_) | (refine DOps.st 14 rfl rfl (op_load_m (i := 2) rfl ta_24 rfl rfl rfl rfl ⟨rfl, rfl⟩) ?_) | (refine DOps.st 14 rfl rfl (op_load_m (i := 3) rfl ta_24 rfl rfl rfl rfl ⟨rfl, rfl⟩) ?_) | (refine DOps.st 14 rfl rfl (op_load_m (i := 4) rfl ta_24 rfl rfl rfl rfl ⟨rfl, rfl⟩) ?_) | (refine DOps.st 14 rfl rfl (op_load_m (i := 5) rfl ta_24 rfl rfl rfl rfl ⟨rfl, rfl⟩) ?_) | (refine DOps.st 14 rfl rfl (op_load_c rfl ta_24 rfl rfl rfl ⟨rfl, rfl⟩) ?_)
  first | (refine DOps.st 15 rfl rfl (op_load_m (i := 0) rfl ta_24 rfl rfl rfl rfl ⟨rfl, rfl⟩) ?_) | (refine DOps.st 15 rfl rfl (op_load_m (i := 1) rfl ta_24 rfl rfl rfl rfl ⟨rfl, rfl⟩) ?_) | (refine DOps.st 15 rfl rfl (op_load_m (i := 2) rfl ta_24 rfl rfl rfl rfl ⟨rfl, rfl⟩) ?_) | (refine DOps.st 15 rfl rfl (op_load_m (i := 3) rfl ta_24 rfl rfl rfl rfl ⟨rfl, rfl⟩) ?_) | (refine DOps.st 15 rfl rfl (op_load_m (i := 4) rfl ta_24 rfl rfl rfl rfl ⟨rfl, rfl⟩) ?_) | (refine DOps.st 15 rfl rfl (op_load_m (i := 5) rfl ta_24 rfl rfl rfl rfl ⟨rfl, rfl⟩) ?_) | (refine DOps.st 15 rfl rfl (op_load_c rfl ta_24 rfl rfl rfl ⟨rfl, rfl⟩) ?_)
  refine DOps.st 16 rfl rfl (op_callp (xs := [.tmp 14, .tmp 15]) rfl rfl (Fun_c tI tI) (by first | exact Les.refl _ | (repeat' (first | exact Les.refl _ | refine Les.cons ?_ ?_ | exact Le.refl _ | exact Le.own _ _ _ | exact Le.nil _ | refine Le.agg ?_))) ⟨rfl, rfl⟩) ?_
  refine DOps.st 17 rfl rfl (op_callp (xs := [.tmp 13, .tmp 16]) rfl rfl (hM) (by first | exact Les.refl _ | (repeat' (first | exact Les.refl _ | refine Les.cons ?_ ?_ | exact Le.refl _ | exact Le.own _ _ _ | exact Le.nil _ | refine Le.agg ?_))) ⟨rfl, rfl⟩) ?_
  refine DOps.st 10 rfl rfl (op_move rfl rfl ⟨rfl, rfl⟩) ?_
  refine DOps.st 18 rfl rfl (op_extract rfl rfl rfl ⟨rfl, rfl⟩) ?_
  refine DOps.st 19 rfl rfl (op_extract rfl rfl rfl ⟨rfl, rfl⟩) ?_
  refine DOps.st 20 rfl rfl (op_extract rfl rfl rfl ⟨rfl, rfl⟩) ?_
  refine DOps.st 3 rfl rfl (op_assign rfl rfl ⟨rfl, rfl⟩) ?_
  refine DOps.st 4 rfl rfl (op_assign rfl rfl ⟨rfl, rfl⟩) ?_
  refine DOps.st 5 rfl rfl (op_assign rfl rfl ⟨rfl, rfl⟩) ?_
  show AGo _ _ _ _ _ _
  refine go_code ?_
  refine c_seq ?_
  refine c_drawnE [0, 1, 2, 3, 4, 5, 6, 7, 8, 9, 10, 11] [9, 11] [[], [], [], [1, 2], [0, 1, 2, 3], [0, 1, 2, 3, 4], [0, 1, 2, 3, 4, 5], [0, 1, 2, 3, 4, 5, 6], [0, 1, 2, 3, 4, 5, 6], [], [0, 1, 2, 3, 4, 5, 6, 7, 9], [0, 1, 2, 3, 4, 5, 6, 7, 8, 9, 10]] tmix rfl ?_
  first | (refine EOps.d 22 (some 0) (i := 0) rfl rfl rfl rfl rfl (op_load_m (i := 0) rfl ta_24 rfl rfl rfl rfl ⟨rfl, rfl⟩) ?_) | (refine EOps.d 22 (some 1) (i := 0) rfl rfl rfl rfl rfl (op_load_m (i := 0) rfl ta_24 rfl rfl rfl rfl ⟨rfl, rfl⟩) ?_) | (refine EOps.d 22 (some 2) (i := 0) rfl rfl rfl rfl rfl (op_load_m (i := 0) rfl ta_24 rfl rfl rfl rfl ⟨rfl, rfl⟩) ?_) | (refine EOps.d 22 (some 3) (i := 0) rfl rfl rfl rfl rfl (op_load_m (i := 0) rfl ta_24 rfl rfl rfl rfl ⟨rfl, rfl⟩) ?_) | (refine EOps.d 22 (some 4) (i := 0) rfl rfl rfl rfl rfl (op_load_m (i := 0) rfl ta_24 rfl rfl rfl rfl ⟨rfl, rfl⟩) ?_) | (refine EOps.d 22 (some 5) (i := 0) rfl rfl rfl rfl rfl (op_load_m (i := 0) rfl ta_24 rfl rfl rfl rfl ⟨rfl, rfl⟩) ?_) | (refine EOps.d 22 (none) (i := 0) rfl rfl rfl rfl rfl (op_load_c rfl ta_24 rfl rfl rfl ⟨rfl, rfl⟩) ?_)
  first | (refine EOps.d 23 (some 0) (i := 1) rfl rfl rfl rfl rfl (op_load_m (i := 0) rfl ta_24 rfl rfl rfl rfl ⟨rfl, rfl⟩) ?_) | (refine EOps.d 23 (some 1) (i := 1) rfl rfl rfl rfl rfl (op_load_m (i := 0) rfl ta_24 rfl rfl rfl rfl ⟨rfl, rfl⟩) ?_) | (refine EOps.d 23 (some 2) (i := 1) rfl rfl rfl rfl rfl (op_load_m (i := 0) rfl ta_24 rfl rfl rfl rfl ⟨rfl, rfl⟩) ?_) | (refine EOps.d 23 (some 3) (i := 1) rfl rfl rfl rfl rfl (op_load_m (i := 0) rfl ta_24 rfl rfl rfl rfl ⟨rfl, rfl⟩) ?_) | (refine EOps.d 23 (some 4) (i := 1) rfl rfl rfl rfl rfl (op_load_m (i := 0) rfl ta_24 rfl rfl rfl rfl ⟨rfl, rfl⟩) ?_) | (refine EOps.d 23 (some 5) (i := 1) rfl rfl rfl rfl rfl (op_load_m (i := 0) rfl ta_24 rfl rfl rfl rfl ⟨rfl, rfl⟩) ?_) | (refine EOps.d 23 (none) (i := 1) rfl rfl rfl rfl rfl (op_load_c rfl ta_24 rfl rfl rfl ⟨rfl, rfl⟩) ?_)
  first | (refine EOps.d 24 (some 0) (i := 2) rfl rfl rfl rfl rfl (op_load_m (i := 0) rfl ta_24 rfl rfl rfl rfl ⟨rfl, rfl⟩) ?_) | (refine EOps.d 24 (some 1) (i := 2) rfl rfl rfl rfl rfl (op_load_m (i := 0) rfl ta_24 rfl rfl rfl rfl ⟨rfl, rfl⟩) ?_) | (refine EOps.d 24 (some 2) (i := 2) rfl rfl rfl rfl rfl (op_load_m (i := 0) rfl ta_24 rfl rfl rfl rfl ⟨rfl, rfl⟩) ?_) | (refine EOps.d 24 (some 3) (i := 2) rfl rfl rfl rfl rfl (op_load_m (i := 0) rfl ta_24 rfl rfl rfl rfl ⟨rfl, rfl⟩) ?_) | (refine EOps.d 24 (some 4) (i := 2) rfl rfl rfl rfl rfl (op_load_m (i := 0) rfl ta_24 rfl rfl rfl rfl ⟨rfl, rfl⟩) ?_) | (refine EOps.d 24 (some 5) (i := 2) rfl rfl rfl rfl rfl (op_load_m (i := 0) rfl ta_24 rfl rfl rfl rfl ⟨rfl, rfl⟩) ?_) | (refine EOps.d 24 (none) (i := 2) rfl rfl rfl rfl rfl (op_load_c rfl ta_24 rfl rfl rfl ⟨rfl, rfl⟩) ?_)
  refine EOps.d 25 (none) (i := 3) rfl rfl rfl rfl rfl (op_callp (xs := [.tmp 23, .tmp 24]) rfl rfl (Fun_c tI tA) (by first | exact Les.refl _ | (repeat' (first | exact Les.refl _ | refine Les.cons ?_ ?_ | exact Le.refl _ | exact Le.own _ _ _ | exact Le.nil _ | refine Le.agg ?_))) ⟨rfl, rfl⟩) ?_
  refine EOps.d 26 (none) (i := 4) rfl rfl rfl rfl rfl (op_callp (xs := [.tmp 22, .tmp 25]) rfl rfl (Fun_c tA (fn2 tI tA)) (by first | exact Les.refl _ | (repeat' (first | exact Les.refl _ | refine Les.cons ?_ ?_ | exact Le.refl _ | exact Le.own _ _ _ | exact Le.nil _ | refine Le.agg ?_))) ⟨rfl, rfl⟩) ?_
  refine EOps.d 27 (none) (i := 5) rfl rfl rfl rfl rfl (op_callp (xs := [.tmp 26]) rfl rfl (hA) (by first | exact Les.refl _ | (repeat' (first | exact Les.refl _ | refine Les.cons ?_ ?_ | exact Le.refl _ | exact Le.own _ _ _ | exact Le.nil _ | refine Le.agg ?_))) ⟨rfl, rfl⟩) ?_
  refine EOps.d 21 (none) (i := 6) rfl rfl rfl rfl rfl (op_move rfl rfl ⟨rfl, rfl⟩) ?_
  refine EOps.d 28 (none) (i := 7) rfl rfl rfl rfl rfl (op_extract rfl rfl rfl ⟨rfl, rfl⟩) ?_
  refine EOps.d 29 (none) (i := 8) rfl rfl rfl rfl rfl (op_extract rfl rfl rfl ⟨rfl, rfl⟩) ?_
  refine EOps.nw (i := 9) rfl rfl rfl (op_alloc rfl tz_24 rfl (fun b7 => ⟨_, rfl, ?_⟩))
  refine EOps.d 6 (none) (i := 10) rfl rfl rfl rfl rfl (op_assign rfl rfl ⟨rfl, rfl⟩) ?_
  first | (refine EOps.w 0 (i := 11) rfl rfl rfl rfl rfl (op_store (i := 0) rfl ts_24 rfl rfl rfl rfl rfl (Nat.le_of_ble_eq_true rfl) rfl ⟨_, rfl, ?_⟩)) | (refine EOps.w 1 (i := 11) rfl rfl rfl rfl rfl (op_store (i := 0) rfl ts_24 rfl rfl rfl rfl rfl (Nat.le_of_ble_eq_true rfl) rfl ⟨_, rfl, ?_⟩)) | (refine EOps.w 2 (i := 11) rfl rfl rfl rfl rfl (op_store (i := 0) rfl ts_24 rfl rfl rfl rfl rfl (Nat.le_of_ble_eq_true rfl) rfl ⟨_, rfl, ?_⟩)) | (refine EOps.w 3 (i := 11) rfl rfl rfl rfl rfl (op_store (i := 0) rfl ts_24 rfl rfl rfl rfl rfl (Nat.le_of_ble_eq_true rfl) rfl ⟨_, rfl, ?_⟩)) | (refine EOps.w 4 (i := 11) rfl rfl rfl rfl rfl (op_store (i := 0) rfl ts_24 rfl rfl rfl rfl rfl (Nat.le_of_ble_eq_true rfl) rfl ⟨_, rfl, ?_⟩)) | (refine EOps.w 5 (i := 11) rfl rfl rfl rfl rfl (op_store (i := 0) rfl ts_24 rfl rfl rfl rfl rfl (Nat.le_of_ble_eq_true rfl) rfl ⟨_, rfl, ?_⟩))
  show AGo _ _ _ _ _ _
  refine go_code ?_
  refine c_seq ?_
  refine c_bool 0 (True) ?_ _ _ rfl ?_
  · skip
    refine AOps.st 30 rfl rfl rfl (op_move rfl rfl ?_)
    refine AOps.st 31 rfl rfl rfl (op_move rfl rfl ?_)
    refine AOps.gt 32 rfl rfl rfl rfl rfl (op_move rfl rfl ?_)
    first | (refine AOps.gt 33 rfl rfl rfl rfl rfl (op_len rfl tu_27 rfl (.seq _ _) (fun n33 => ?_))) | (refine AOps.gt 33 rfl rfl rfl rfl rfl (op_len rfl tu_27 rfl (.own _ _ _) (fun n33 => ?_))) | (refine AOps.gt 33 rfl rfl rfl rfl rfl (op_len rfl tu_27 rfl (.nil 0) (fun n33 => ?_))) | (refine AOps.gt 33 rfl rfl rfl rfl rfl (op_len_arr rfl tu_27 rfl ?_))
    refine AOps.gt 34 rfl rfl rfl rfl rfl (op_eql rfl rfl rfl ?_); intro c34 h34
    refine AOps.st 35 rfl rfl rfl (op_pick rfl rfl rfl ?_)
    refine AOps.st 36 rfl rfl rfl (op_move rfl rfl ?_)
    rcases bool_split h34 with ⟨rfl, g34⟩ | ⟨rfl, g34⟩
    · skip
      refine AOps.gf 37 rfl rfl rfl rfl rfl ?_
      refine AOps.gf 38 rfl rfl rfl rfl rfl ?_
      refine AOps.gf 39 rfl rfl rfl rfl rfl ?_
      refine AOps.gf 40 rfl rfl rfl rfl rfl ?_
      refine AOps.st 41 rfl rfl rfl (op_pick rfl rfl rfl ?_)
      refine AOps.st 42 rfl rfl rfl (op_move rfl rfl ?_)
      refine AOps.gf 43 rfl rfl rfl rfl rfl ?_
      refine AOps.gf 44 rfl rfl rfl rfl rfl ?_
      refine AOps.gf 45 rfl rfl rfl rfl rfl ?_
      refine AOps.gf 46 rfl rfl rfl rfl rfl ?_
      refine AOps.gf 47 rfl rfl rfl rfl rfl ?_
      refine AOps.st 48 rfl rfl rfl (op_pick rfl rfl rfl ?_)
      refine AOps.st 49 rfl rfl rfl (op_move rfl rfl ?_)
      refine AOps.gf 50 rfl rfl rfl rfl rfl ?_
      refine AOps.gf 51 rfl rfl rfl rfl rfl ?_
      refine AOps.gf 52 rfl rfl rfl rfl rfl ?_
      refine AOps.st 53 rfl rfl rfl (op_pick rfl rfl rfl ?_)
      refine AOps.st 54 rfl rfl rfl (op_move rfl rfl ?_)
      refine AOps.gf 55 rfl rfl rfl rfl rfl ?_
      refine AOps.gf 56 rfl rfl rfl rfl rfl ?_
      refine AOps.st 57 rfl rfl rfl (op_pick rfl rfl rfl ?_)
      refine AOps.st 0 rfl rfl rfl (op_assign rfl rfl ?_)
      refine AOps.nil ?_
      refine BoolQ.mk rfl ?_ (by repeat' (first | exact SLe.wo _ _ | exact SLe.refl _ | refine SLe.fresh rfl ?_)) (by first | exact MLe.none _ | exact MLe.refl _ | (repeat' (first | exact MLe.nil | exact MLe.refl _ | refine MLe.cons _ ?_ | refine MLe.drop _ ?_)))
      first | exact iff_t trivial | exact absurd rfl g34 | exact absurd rfl g40 | exact absurd rfl g47 | exact absurd rfl g52 | exact ⟨fun _ => trivial, fun _ => h56.2 hL⟩
    · skip
      refine AOps.gt 37 rfl rfl rfl rfl rfl (op_move rfl rfl ?_)
      first | (refine AOps.gt 38 rfl rfl rfl rfl rfl (op_index rfl te_27 rfl (.seq _ _) rfl rfl (by assumption) ?_)) | (refine AOps.gt 38 rfl rfl rfl rfl rfl (op_index (i := 0) rfl te_27 rfl (.seq _ _) rfl rfl (by first | rfl | assumption) ?_)) | (refine AOps.gt 38 rfl rfl rfl rfl rfl (op_index (i := 1) rfl te_27 rfl (.seq _ _) rfl rfl (by first | rfl | assumption) ?_)) | (refine AOps.gt 38 rfl rfl rfl rfl rfl (op_index rfl te_27 rfl (.own _ _ _) rfl rfl (by assumption) ?_)) | (refine AOps.gt 38 rfl rfl rfl rfl rfl (op_index (i := 0) rfl te_27 rfl (.own _ _ _) rfl rfl (by first | rfl | assumption) ?_)) | (refine AOps.gt 38 rfl rfl rfl rfl rfl (op_index (i := 1) rfl te_27 rfl (.own _ _ _) rfl rfl (by first | rfl | assumption) ?_)) | (refine AOps.gt 38 rfl rfl rfl rfl rfl (op_index_arr rfl te_27 rfl rfl rfl (by omega) ?_))
      first | (refine AOps.gt 39 rfl rfl rfl rfl rfl (op_load_m1 (i := 0) rfl ta_9 rfl rfl rfl ?_)) | (refine AOps.gt 39 rfl rfl rfl rfl rfl (op_load_m1 (i := 1) rfl ta_9 rfl rfl rfl ?_)) | (refine AOps.gt 39 rfl rfl rfl rfl rfl (op_load_m1 (i := 2) rfl ta_9 rfl rfl rfl ?_)) | (refine AOps.gt 39 rfl rfl rfl rfl rfl (op_load_m1 (i := 3) rfl ta_9 rfl rfl rfl ?_)) | (refine AOps.gt 39 rfl rfl rfl rfl rfl (op_load_m1 (i := 4) rfl ta_9 rfl rfl rfl ?_)) | (refine AOps.gt 39 rfl rfl rfl rfl rfl (op_load_m1 (i := 5) rfl ta_9 rfl rfl rfl ?_)) | (refine AOps.gt 39 rfl rfl rfl rfl rfl (op_load_c1 rfl ta_9 rfl rfl ?_))
      refine AOps.gt 40 rfl rfl rfl rfl rfl (op_seql rfl rfl rfl ?_); intro c40 h40
      refine AOps.st 41 rfl rfl rfl (op_pick rfl rfl rfl ?_)
      refine AOps.st 42 rfl rfl rfl (op_move rfl rfl ?_)
      rcases bool_split h40 with ⟨rfl, g40⟩ | ⟨rfl, g40⟩
      · skip
        refine AOps.gf 43 rfl rfl rfl rfl rfl ?_
        refine AOps.gf 44 rfl rfl rfl rfl rfl ?_
        refine AOps.gf 45 rfl rfl rfl rfl rfl ?_
        refine AOps.gf 46 rfl rfl rfl rfl rfl ?_
        refine AOps.gf 47 rfl rfl rfl rfl rfl ?_
        refine AOps.st 48 rfl rfl rfl (op_pick rfl rfl rfl ?_)
        refine AOps.st 49 rfl rfl rfl (op_move rfl rfl ?_)
        refine AOps.gf 50 rfl rfl rfl rfl rfl ?_
        refine AOps.gf 51 rfl rfl rfl rfl rfl ?_
        refine AOps.gf 52 rfl rfl rfl rfl rfl ?_
        refine AOps.st 53 rfl rfl rfl (op_pick rfl rfl rfl ?_)
        refine AOps.st 54 rfl rfl rfl (op_move rfl rfl ?_)
        refine AOps.gf 55 rfl rfl rfl rfl rfl ?_
        refine AOps.gf 56 rfl rfl rfl rfl rfl ?_
        refine AOps.st 57 rfl rfl rfl (op_pick rfl rfl rfl ?_)
        refine AOps.st 0 rfl rfl rfl (op_assign rfl rfl ?_)
        refine AOps.nil ?_
        refine BoolQ.mk rfl ?_ (by repeat' (first | exact SLe.wo _ _ | exact SLe.refl _ | refine SLe.fresh rfl ?_)) (by first | exact MLe.none _ | exact MLe.refl _ | (repeat' (first | exact MLe.nil | exact MLe.refl _ | refine MLe.cons _ ?_ | refine MLe.drop _ ?_)))
        first | exact iff_t trivial | exact absurd rfl g34 | exact absurd rfl g40 | exact absurd rfl g47 | exact absurd rfl g52 | exact ⟨fun _ => trivial, fun _ => h56.2 hL⟩
      · skip
        refine AOps.gt 43 rfl rfl rfl rfl rfl (op_move rfl rfl ?_)
        first | (refine AOps.gt 44 rfl rfl rfl rfl rfl (op_index rfl te_22 rfl (.seq _ _) rfl rfl (by assumption) ?_)) | (refine AOps.gt 44 rfl rfl rfl rfl rfl (op_index (i := 0) rfl te_22 rfl (.seq _ _) rfl rfl (by first | rfl | assumption) ?_)) | (refine AOps.gt 44 rfl rfl rfl rfl rfl (op_index (i := 1) rfl te_22 rfl (.seq _ _) rfl rfl (by first | rfl | assumption) ?_)) | (refine AOps.gt 44 rfl rfl rfl rfl rfl (op_index rfl te_22 rfl (.own _ _ _) rfl rfl (by assumption) ?_)) | (refine AOps.gt 44 rfl rfl rfl rfl rfl (op_index (i := 0) rfl te_22 rfl (.own _ _ _) rfl rfl (by first | rfl | assumption) ?_)) | (refine AOps.gt 44 rfl rfl rfl rfl rfl (op_index (i := 1) rfl te_22 rfl (.own _ _ _) rfl rfl (by first | rfl | assumption) ?_)) | (refine AOps.gt 44 rfl rfl rfl rfl rfl (op_index_arr rfl te_22 rfl rfl rfl (by omega) ?_))
        first | (refine AOps.gt 45 rfl rfl rfl rfl rfl (op_fieldAddr_m rfl tf_24_1 rfl ?_)) | (refine AOps.gt 45 rfl rfl rfl rfl rfl (op_fieldAddr_c rfl tf_24_1 rfl rfl ?_))
        first | (refine AOps.gt 46 rfl rfl rfl rfl rfl (op_load_m1 (i := 0) rfl ta_9 rfl rfl rfl ?_)) | (refine AOps.gt 46 rfl rfl rfl rfl rfl (op_load_m1 (i := 1) rfl ta_9 rfl rfl rfl ?_)) | (refine AOps.gt 46 rfl rfl rfl rfl rfl (op_load_m1 (i := 2) rfl ta_9 rfl rfl rfl ?_)) | (refine AOps.gt 46 rfl rfl rfl rfl rfl (op_load_m1 (i := 3) rfl ta_9 rfl rfl rfl ?_)) | (refine AOps.gt 46 rfl rfl rfl rfl rfl (op_load_m1 (i := 4) rfl ta_9 rfl rfl rfl ?_)) | (refine AOps.gt 46 rfl rfl rfl rfl rfl (op_load_m1 (i := 5) rfl ta_9 rfl rfl rfl ?_)) | (refine AOps.gt 46 rfl rfl rfl rfl rfl (op_load_c1 rfl ta_9 rfl rfl ?_))
        refine AOps.gt 47 rfl rfl rfl rfl rfl (op_seql rfl rfl rfl ?_); intro c47 h47
        refine AOps.st 48 rfl rfl rfl (op_pick rfl rfl rfl ?_)
        refine AOps.st 49 rfl rfl rfl (op_move rfl rfl ?_)
        rcases bool_split h47 with ⟨rfl, g47⟩ | ⟨rfl, g47⟩
        · skip
          refine AOps.gf 50 rfl rfl rfl rfl rfl ?_
          refine AOps.gf 51 rfl rfl rfl rfl rfl ?_
          refine AOps.gf 52 rfl rfl rfl rfl rfl ?_
          refine AOps.st 53 rfl rfl rfl (op_pick rfl rfl rfl ?_)
          refine AOps.st 54 rfl rfl rfl (op_move rfl rfl ?_)
          refine AOps.gf 55 rfl rfl rfl rfl rfl ?_
          refine AOps.gf 56 rfl rfl rfl rfl rfl ?_
          refine AOps.st 57 rfl rfl rfl (op_pick rfl rfl rfl ?_)
          refine AOps.st 0 rfl rfl rfl (op_assign rfl rfl ?_)
          refine AOps.nil ?_
          refine BoolQ.mk rfl ?_ (by repeat' (first | exact SLe.wo _ _ | exact SLe.refl _ | refine SLe.fresh rfl ?_)) (by first | exact MLe.none _ | exact MLe.refl _ | (repeat' (first | exact MLe.nil | exact MLe.refl _ | refine MLe.cons _ ?_ | refine MLe.drop _ ?_)))
          first | exact iff_t trivial | exact absurd rfl g34 | exact absurd rfl g40 | exact absurd rfl g47 | exact absurd rfl g52 | exact ⟨fun _ => trivial, fun _ => h56.2 hL⟩
        · skip
          refine AOps.gt 50 rfl rfl rfl rfl rfl (op_move rfl rfl ?_)
          first | (refine AOps.gt 51 rfl rfl rfl rfl rfl (op_len rfl tu_22 rfl (.seq _ _) (fun n51 => ?_))) | (refine AOps.gt 51 rfl rfl rfl rfl rfl (op_len rfl tu_22 rfl (.own _ _ _) (fun n51 => ?_))) | (refine AOps.gt 51 rfl rfl rfl rfl rfl (op_len rfl tu_22 rfl (.nil 0) (fun n51 => ?_))) | (refine AOps.gt 51 rfl rfl rfl rfl rfl (op_len_arr rfl tu_22 rfl ?_))
          refine AOps.gt 52 rfl rfl rfl rfl rfl (op_eql rfl rfl rfl ?_); intro c52 h52
          refine AOps.st 53 rfl rfl rfl (op_pick rfl rfl rfl ?_)
          refine AOps.st 54 rfl rfl rfl (op_move rfl rfl ?_)
          rcases bool_split h52 with ⟨rfl, g52⟩ | ⟨rfl, g52⟩
          · skip
            refine AOps.gf 55 rfl rfl rfl rfl rfl ?_
            refine AOps.gf 56 rfl rfl rfl rfl rfl ?_
            refine AOps.st 57 rfl rfl rfl (op_pick rfl rfl rfl ?_)
            refine AOps.st 0 rfl rfl rfl (op_assign rfl rfl ?_)
            refine AOps.nil ?_
            refine BoolQ.mk rfl ?_ (by repeat' (first | exact SLe.wo _ _ | exact SLe.refl _ | refine SLe.fresh rfl ?_)) (by first | exact MLe.none _ | exact MLe.refl _ | (repeat' (first | exact MLe.nil | exact MLe.refl _ | refine MLe.cons _ ?_ | refine MLe.drop _ ?_)))
            first | exact iff_t trivial | exact absurd rfl g34 | exact absurd rfl g40 | exact absurd rfl g47 | exact absurd rfl g52 | exact ⟨fun _ => trivial, fun _ => h56.2 hL⟩
          · skip
            refine AOps.gt 55 rfl rfl rfl rfl rfl (op_callp (xs := [.const (.int .i64 27)]) rfl rfl (Letter_c 27 (by omega)) (by first | exact Les.refl _ | (repeat' (first | exact Les.refl _ | refine Les.cons ?_ ?_ | exact Le.refl _ | exact Le.own _ _ _ | exact Le.nil _ | refine Le.agg ?_))) ?_)
            refine AOps.gt 56 rfl rfl rfl rfl rfl (op_seql rfl rfl rfl ?_); intro c56 h56
            refine AOps.st 57 rfl rfl rfl (op_pick rfl rfl rfl ?_)
            refine AOps.st 0 rfl rfl rfl (op_assign rfl rfl ?_)
            refine AOps.nil ?_
            refine BoolQ.mk rfl ?_ (by repeat' (first | exact SLe.wo _ _ | exact SLe.refl _ | refine SLe.fresh rfl ?_)) (by first | exact MLe.none _ | exact MLe.refl _ | (repeat' (first | exact MLe.nil | exact MLe.refl _ | refine MLe.cons _ ?_ | refine MLe.drop _ ?_)))
            first | exact iff_t trivial | exact absurd rfl g34 | exact absurd rfl g40 | exact absurd rfl g47 | exact absurd rfl g52 | exact ⟨fun _ => trivial, fun _ => h56.2 hL⟩
  intro c0 h0
  refine go_code ?_
  refine c_ret ?_
  exact out_tmp rfl rfl (Le.refl _) (by first | exact MLe.none _ | exact MLe.refl _ | (repeat' (first | exact MLe.nil | exact MLe.refl _ | refine MLe.cons _ ?_ | refine MLe.drop _ ?_))) ⟨by rw [h0.2 trivial], rfl⟩
end Go.Proofs.Ytjgjnheeohfmmaa
