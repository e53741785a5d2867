/- TypesAsk: for any two types the program's answers about them are the document's. No condition. -/
import Derived.Test.YtjgjnheeohfmmaaChecked
import Derived.Test.YtjgjnheeohfmmaaRows
import Derived.Test.YtjgjnheeohfmmaaT08
import Derived.Test.YtjgjnheeohfmmaaB08k
import Derived.Test.YtjgjnheeohfmmaaB08w
namespace Go.Proofs.Ytjgjnheeohfmmaa
open Go.ChangeShapes Go.WideShapes Go.ChangeAt Go.RowKit
set_option maxRecDepth 100000 in
theorem TypesAsk_c (t u : Ty) : ACall Try.prog 5 [.agg t.cells, .agg u.cells] [] (fun v _ => v = .val (.bool true)) := by
  have hS := fun (h : t.small 200 = true) => (Ty.small_size (by omega) h).1
  have HA := fun (h : t.size ≤ 1000000) => Args_c t h
  have HR := rAnswer_c t.size t (Nat.le_refl _)
  have HRA := fun (h : t.size ≤ 1000000) => (rArgs_c t.size t (Nat.le_refl _) h).pure
  have HV := fun (h : t.size ≤ 1000000) => (Vars_c t h).pure
  have HRV := fun (h : t.size ≤ 1000000) => (rVars_c t h).pure
  have HM := fun (h : t.size ≤ 1000000) => (Metas_c t h).pure
  have HRM := fun (h : t.size ≤ 1000000) => (rMetas_c t h).pure
  have HS := fun (h : t.size ≤ 1000000) => Size_c t h
  have HAl := fun (h : t.size ≤ 1000000) => (All_c t.size t (Nat.le_refl _) h).pure
  have hal : (Ty.cellss t.all).length = t.size := by rw [Ty.cellss_len, Ty.all_len]
  have HF := Fun_c t u
  have HRF := rFun_c t u
  have HC := Con_c ⟨#[80, 97, 105, 114]⟩ [t, u] (by simp)
  have HSm := Small_c t 200 (by omega) (by omega)
  have HSn := Small_c u 200 (by omega) (by omega)
  generalize t.ans = ans at HA HR
  obtain ⟨ak, ax, an, aks⟩ := ans
  generalize t.small 200 = bt at hS HSm
  generalize u.small 200 = bu at HSn
  generalize t.size = sz at *
  obtain ⟨k, s, n, ks⟩ := t
  obtain ⟨k2, s2, n2, ks2⟩ := u
  refine ACall.enter Try.func5 rfl (by kernel_rfl) rfl (Nat.le_of_ble_eq_true rfl) ?_
  refine c_start ?_
  refine c_seq ?_
  refine c_region ?_
  refine AOps.st 2 rfl rfl rfl (op_box rfl rfl rfl ?_); intro b2
  refine AOps.st 3 rfl rfl rfl (op_box rfl rfl rfl ?_); intro b3
  refine AOps.st 4 rfl rfl rfl (op_assign rfl rfl ?_)
  refine AOps.nil ?_
  refine go_code ?_
  refine c_seq ?_
  refine c_seq ?_
  refine c_region ?_
  refine AOps.st 7 rfl rfl rfl (op_callp (xs := []) rfl rfl (awake08_c) (by first | exact Les.refl _ | (repeat' (first | exact Les.refl _ | refine Les.cons ?_ ?_ | exact Le.refl _ | exact Le.own _ _ _ | exact Le.nil _ | refine Le.agg ?_))) ?_)
  refine AOps.st 8 rfl rfl rfl (op_notc rfl rfl ?_); intro c8 h8
  try replace h8 := nott h8 h7
  refine AOps.nil ?_
  refine go_code ?_
  rcases bool_split h8 with ⟨rfl, g8⟩ | ⟨rfl, g8⟩
  · refine c_cond_f rfl ?_
    refine c_skip ?_
    refine go_code ?_
    refine c_seq ?_
    refine c_seq ?_
    refine c_bool 16 (¬ bt = true ∨ ¬ bu = true) ?_ _ _ rfl ?_
    · skip
      first | (refine AOps.st 9 rfl rfl rfl (op_load_m (i := 0) rfl ta_24 rfl rfl rfl rfl ?_)) | (refine AOps.st 9 rfl rfl rfl (op_load_m (i := 1) rfl ta_24 rfl rfl rfl rfl ?_)) | (refine AOps.st 9 rfl rfl rfl (op_load_m (i := 2) rfl ta_24 rfl rfl rfl rfl ?_)) | (refine AOps.st 9 rfl rfl rfl (op_load_m (i := 3) rfl ta_24 rfl rfl rfl rfl ?_)) | (refine AOps.st 9 rfl rfl rfl (op_load_m (i := 4) rfl ta_24 rfl rfl rfl rfl ?_)) | (refine AOps.st 9 rfl rfl rfl (op_load_m (i := 5) rfl ta_24 rfl rfl rfl rfl ?_)) | (refine AOps.st 9 rfl rfl rfl (op_load_c rfl ta_24 rfl rfl rfl ?_))
      refine AOps.st 10 rfl rfl rfl (op_callb (xs := [.tmp 9, .const (.int .i64 200)]) rfl rfl (HSm) (by first | exact Les.refl _ | (repeat' (first | exact Les.refl _ | refine Les.cons ?_ ?_ | exact Le.refl _ | exact Le.own _ _ _ | exact Le.nil _ | refine Le.agg ?_))) ?_); intro c10 h10
      refine AOps.st 11 rfl rfl rfl (op_notc rfl rfl ?_); intro c11 h11
      try replace h11 := nott h11 h10
      refine AOps.st 12 rfl rfl rfl (op_move rfl rfl ?_)
      rcases bool_split h11 with ⟨rfl, g11⟩ | ⟨rfl, g11⟩
      · skip
        first | (refine AOps.gt 13 rfl rfl rfl rfl rfl (op_load_m (i := 0) rfl ta_24 rfl rfl rfl rfl ?_)) | (refine AOps.gt 13 rfl rfl rfl rfl rfl (op_load_m (i := 1) rfl ta_24 rfl rfl rfl rfl ?_)) | (refine AOps.gt 13 rfl rfl rfl rfl rfl (op_load_m (i := 2) rfl ta_24 rfl rfl rfl rfl ?_)) | (refine AOps.gt 13 rfl rfl rfl rfl rfl (op_load_m (i := 3) rfl ta_24 rfl rfl rfl rfl ?_)) | (refine AOps.gt 13 rfl rfl rfl rfl rfl (op_load_m (i := 4) rfl ta_24 rfl rfl rfl rfl ?_)) | (refine AOps.gt 13 rfl rfl rfl rfl rfl (op_load_m (i := 5) rfl ta_24 rfl rfl rfl rfl ?_)) | (refine AOps.gt 13 rfl rfl rfl rfl rfl (op_load_c rfl ta_24 rfl rfl rfl ?_))
        refine AOps.gt 14 rfl rfl rfl rfl rfl (op_callb (xs := [.tmp 13, .const (.int .i64 200)]) rfl rfl (HSn) (by first | exact Les.refl _ | (repeat' (first | exact Les.refl _ | refine Les.cons ?_ ?_ | exact Le.refl _ | exact Le.own _ _ _ | exact Le.nil _ | refine Le.agg ?_))) ?_); intro c14 h14
        refine AOps.gt 15 rfl rfl rfl rfl rfl (op_notc rfl rfl ?_); intro c15 h15
        try replace h15 := nott h15 h14
        refine AOps.st 16 rfl rfl rfl (op_pick rfl rfl rfl ?_)
        refine AOps.nil ?_
        refine BoolQ.mk rfl ?_ (by repeat' (first | exact SLe.wo _ _ | exact SLe.refl _ | refine SLe.fresh rfl ?_)) (by first | exact MLe.none _ | exact MLe.refl _ | (repeat' (first | exact MLe.nil | exact MLe.refl _ | refine MLe.cons _ ?_ | refine MLe.drop _ ?_)))
        simp_all
      · skip
        refine AOps.gf 13 rfl rfl rfl rfl rfl ?_
        refine AOps.gf 14 rfl rfl rfl rfl rfl ?_
        refine AOps.gf 15 rfl rfl rfl rfl rfl ?_
        refine AOps.st 16 rfl rfl rfl (op_pick rfl rfl rfl ?_)
        refine AOps.nil ?_
        refine BoolQ.mk rfl ?_ (by repeat' (first | exact SLe.wo _ _ | exact SLe.refl _ | refine SLe.fresh rfl ?_)) (by first | exact MLe.none _ | exact MLe.refl _ | (repeat' (first | exact MLe.nil | exact MLe.refl _ | refine MLe.cons _ ?_ | refine MLe.drop _ ?_)))
        simp_all
    intro c16 h16
    refine go_code ?_
    rcases bool_split h16 with ⟨rfl, g16⟩ | ⟨rfl, g16⟩
    · refine c_cond_f rfl ?_
      refine c_skip ?_
      refine go_code ?_
      refine c_seq ?_
      have hbt : bt = true := Classical.not_not.1 (fun q => g16 (Or.inl q))
      have hsz : sz ≤ 1000000 := by have := hS hbt; omega
      refine c_region ?_
      first | (refine AOps.st 18 rfl rfl rfl (op_load_m (i := 0) rfl ta_24 rfl rfl rfl rfl ?_)) | (refine AOps.st 18 rfl rfl rfl (op_load_m (i := 1) rfl ta_24 rfl rfl rfl rfl ?_)) | (refine AOps.st 18 rfl rfl rfl (op_load_m (i := 2) rfl ta_24 rfl rfl rfl rfl ?_)) | (refine AOps.st 18 rfl rfl rfl (op_load_m (i := 3) rfl ta_24 rfl rfl rfl rfl ?_)) | (refine AOps.st 18 rfl rfl rfl (op_load_m (i := 4) rfl ta_24 rfl rfl rfl rfl ?_)) | (refine AOps.st 18 rfl rfl rfl (op_load_m (i := 5) rfl ta_24 rfl rfl rfl rfl ?_)) | (refine AOps.st 18 rfl rfl rfl (op_load_c rfl ta_24 rfl rfl rfl ?_))
      refine AOps.st 19 rfl rfl rfl (op_callp (xs := [.tmp 18]) rfl rfl (HA hsz) (by first | exact Les.refl _ | (repeat' (first | exact Les.refl _ | refine Les.cons ?_ ?_ | exact Le.refl _ | exact Le.own _ _ _ | exact Le.nil _ | refine Le.agg ?_))) ?_)
      refine AOps.st 17 rfl rfl rfl (op_move rfl rfl ?_)
      refine AOps.st 20 rfl rfl rfl (op_extract rfl rfl rfl ?_)
      refine AOps.st 21 rfl rfl rfl (op_extract rfl rfl rfl ?_)
      refine AOps.st 6 rfl rfl rfl (op_alloc rfl tz_24 rfl ?_); intro b6
      refine AOps.st 5 rfl rfl rfl (op_assign rfl rfl ?_)
      first | (refine AOps.st0 rfl rfl (op_store (i := 0) rfl ts_24 rfl rfl rfl rfl rfl (Nat.le_of_ble_eq_true rfl) rfl ?_)) | (refine AOps.st0 rfl rfl (op_store (i := 1) rfl ts_24 rfl rfl rfl rfl rfl (Nat.le_of_ble_eq_true rfl) rfl ?_)) | (refine AOps.st0 rfl rfl (op_store (i := 2) rfl ts_24 rfl rfl rfl rfl rfl (Nat.le_of_ble_eq_true rfl) rfl ?_)) | (refine AOps.st0 rfl rfl (op_store (i := 3) rfl ts_24 rfl rfl rfl rfl rfl (Nat.le_of_ble_eq_true rfl) rfl ?_)) | (refine AOps.st0 rfl rfl (op_store (i := 4) rfl ts_24 rfl rfl rfl rfl rfl (Nat.le_of_ble_eq_true rfl) rfl ?_)) | (refine AOps.st0 rfl rfl (op_store (i := 5) rfl ts_24 rfl rfl rfl rfl rfl (Nat.le_of_ble_eq_true rfl) rfl ?_))
      refine AOps.nil ?_
      refine go_code ?_
      refine c_seq ?_
      refine c_boold 4 (True) tmix rfl ?_ _ _ rfl ?_
      · skip
        refine DOps.st 22 rfl rfl (op_move rfl rfl ⟨rfl, rfl⟩) ?_
        first | (refine DOps.st 23 rfl rfl (op_load_m (i := 0) rfl ta_24 rfl rfl rfl rfl ⟨rfl, rfl⟩) ?_) | (refine DOps.st 23 rfl rfl (op_load_m (i := 1) rfl ta_24 rfl rfl rfl rfl ⟨rfl, rfl⟩) ?_) | (refine DOps.st 23 rfl rfl (op_load_m (i := 2) rfl ta_24 rfl rfl rfl rfl ⟨rfl, rfl⟩) ?_) | (refine DOps.st 23 rfl rfl (op_load_m (i := 3) rfl ta_24 rfl rfl rfl rfl ⟨rfl, rfl⟩) ?_) | (refine DOps.st 23 rfl rfl (op_load_m (i := 4) rfl ta_24 rfl rfl rfl rfl ⟨rfl, rfl⟩) ?_) | (refine DOps.st 23 rfl rfl (op_load_m (i := 5) rfl ta_24 rfl rfl rfl rfl ⟨rfl, rfl⟩) ?_) | (refine DOps.st 23 rfl rfl (op_load_c rfl ta_24 rfl rfl rfl ⟨rfl, rfl⟩) ?_)
        refine DOps.st 24 rfl rfl (op_callp (xs := [.tmp 23]) rfl rfl (HRA hsz) (by first | exact Les.refl _ | (repeat' (first | exact Les.refl _ | refine Les.cons ?_ ?_ | exact Le.refl _ | exact Le.own _ _ _ | exact Le.nil _ | refine Le.agg ?_))) ⟨rfl, rfl⟩) ?_
        refine DOps.st 25 rfl rfl (op_callp (xs := [.tmp 22, .tmp 24]) rfl rfl ((SameTypes_c _ _).yes rfl) (by first | exact Les.refl _ | (repeat' (first | exact Les.refl _ | refine Les.cons ?_ ?_ | exact Le.refl _ | exact Le.own _ _ _ | exact Le.nil _ | refine Le.agg ?_))) ⟨rfl, rfl⟩) ?_
        refine DOps.st 26 rfl rfl (op_move rfl rfl ⟨rfl, rfl⟩) ?_
        first | (refine DOps.gt 27 rfl rfl rfl rfl (op_load_m (i := 0) rfl ta_24 rfl rfl rfl rfl ⟨rfl, rfl⟩) ?_) | (refine DOps.gt 27 rfl rfl rfl rfl (op_load_m (i := 1) rfl ta_24 rfl rfl rfl rfl ⟨rfl, rfl⟩) ?_) | (refine DOps.gt 27 rfl rfl rfl rfl (op_load_m (i := 2) rfl ta_24 rfl rfl rfl rfl ⟨rfl, rfl⟩) ?_) | (refine DOps.gt 27 rfl rfl rfl rfl (op_load_m (i := 3) rfl ta_24 rfl rfl rfl rfl ⟨rfl, rfl⟩) ?_) | (refine DOps.gt 27 rfl rfl rfl rfl (op_load_m (i := 4) rfl ta_24 rfl rfl rfl rfl ⟨rfl, rfl⟩) ?_) | (refine DOps.gt 27 rfl rfl rfl rfl (op_load_m (i := 5) rfl ta_24 rfl rfl rfl rfl ⟨rfl, rfl⟩) ?_) | (refine DOps.gt 27 rfl rfl rfl rfl (op_load_c rfl ta_24 rfl rfl rfl ⟨rfl, rfl⟩) ?_)
        first | (refine DOps.gt 28 rfl rfl rfl rfl (op_load_m (i := 0) rfl ta_24 rfl rfl rfl rfl ⟨rfl, rfl⟩) ?_) | (refine DOps.gt 28 rfl rfl rfl rfl (op_load_m (i := 1) rfl ta_24 rfl rfl rfl rfl ⟨rfl, rfl⟩) ?_) | (refine DOps.gt 28 rfl rfl rfl rfl (op_load_m (i := 2) rfl ta_24 rfl rfl rfl rfl ⟨rfl, rfl⟩) ?_) | (refine DOps.gt 28 rfl rfl rfl rfl (op_load_m (i := 3) rfl ta_24 rfl rfl rfl rfl ⟨rfl, rfl⟩) ?_) | (refine DOps.gt 28 rfl rfl rfl rfl (op_load_m (i := 4) rfl ta_24 rfl rfl rfl rfl ⟨rfl, rfl⟩) ?_) | (refine DOps.gt 28 rfl rfl rfl rfl (op_load_m (i := 5) rfl ta_24 rfl rfl rfl rfl ⟨rfl, rfl⟩) ?_) | (refine DOps.gt 28 rfl rfl rfl rfl (op_load_c rfl ta_24 rfl rfl rfl ⟨rfl, rfl⟩) ?_)
        refine DOps.gt 29 rfl rfl rfl rfl (op_callp (xs := [.tmp 28]) rfl rfl (HR) (by first | exact Les.refl _ | (repeat' (first | exact Les.refl _ | refine Les.cons ?_ ?_ | exact Le.refl _ | exact Le.own _ _ _ | exact Le.nil _ | refine Le.agg ?_))) ⟨rfl, rfl⟩) ?_
        refine DOps.gt 30 rfl rfl rfl rfl (op_callp (xs := [.tmp 27, .tmp 29]) rfl rfl ((SameType_c (.mk ak ax an aks) (.mk ak ax an aks)).yes rfl) (by first | exact Les.refl _ | (repeat' (first | exact Les.refl _ | refine Les.cons ?_ ?_ | exact Le.refl _ | exact Le.own _ _ _ | exact Le.nil _ | refine Le.agg ?_))) ⟨rfl, rfl⟩) ?_
        refine DOps.st 31 rfl rfl (op_pick rfl rfl rfl ⟨rfl, rfl⟩) ?_
        refine DOps.st 32 rfl rfl (op_move rfl rfl ⟨rfl, rfl⟩) ?_
        first | (refine DOps.gt 33 rfl rfl rfl rfl (op_load_m (i := 0) rfl ta_24 rfl rfl rfl rfl ⟨rfl, rfl⟩) ?_) | (refine DOps.gt 33 rfl rfl rfl rfl (op_load_m (i := 1) rfl ta_24 rfl rfl rfl rfl ⟨rfl, rfl⟩) ?_) | (refine DOps.gt 33 rfl rfl rfl rfl (op_load_m (i := 2) rfl ta_24 rfl rfl rfl rfl ⟨rfl, rfl⟩) ?_) | (refine DOps.gt 33 rfl rfl rfl rfl (op_load_m (i := 3) rfl ta_24 rfl rfl rfl rfl ⟨rfl, rfl⟩) ?_) | (refine DOps.gt 33 rfl rfl rfl rfl (op_load_m (i := 4) rfl ta_24 rfl rfl rfl rfl ⟨rfl, rfl⟩) ?_) | (refine DOps.gt 33 rfl rfl rfl rfl (op_load_m (i := 5) rfl ta_24 rfl rfl rfl rfl ⟨rfl, rfl⟩) ?_) | (refine DOps.gt 33 rfl rfl rfl rfl (op_load_c rfl ta_24 rfl rfl rfl ⟨rfl, rfl⟩) ?_)
        refine DOps.gt 34 rfl rfl rfl rfl (op_callp (xs := [.tmp 33]) rfl rfl (HV hsz) (by first | exact Les.refl _ | (repeat' (first | exact Les.refl _ | refine Les.cons ?_ ?_ | exact Le.refl _ | exact Le.own _ _ _ | exact Le.nil _ | refine Le.agg ?_))) ⟨rfl, rfl⟩) ?_
        first | (refine DOps.gt 35 rfl rfl rfl rfl (op_load_m (i := 0) rfl ta_24 rfl rfl rfl rfl ⟨rfl, rfl⟩) ?_) | (refine DOps.gt 35 rfl rfl rfl rfl (op_load_m (i := 1) rfl ta_24 rfl rfl rfl rfl ⟨rfl, rfl⟩) ?_) | (refine DOps.gt 35 rfl rfl rfl rfl (op_load_m (i := 2) rfl ta_24 rfl rfl rfl rfl ⟨rfl, rfl⟩) ?_) | (refine DOps.gt 35 rfl rfl rfl rfl (op_load_m (i := 3) rfl ta_24 rfl rfl rfl rfl ⟨rfl, rfl⟩) ?_) | (refine DOps.gt 35 rfl rfl rfl rfl (op_load_m (i := 4) rfl ta_24 rfl rfl rfl rfl ⟨rfl, rfl⟩) ?_) | (refine DOps.gt 35 rfl rfl rfl rfl (op_load_m (i := 5) rfl ta_24 rfl rfl rfl rfl ⟨rfl, rfl⟩) ?_) | (refine DOps.gt 35 rfl rfl rfl rfl (op_load_c rfl ta_24 rfl rfl rfl ⟨rfl, rfl⟩) ?_)
        refine DOps.gt 36 rfl rfl rfl rfl (op_callp (xs := [.tmp 35]) rfl rfl (HRV hsz) (by first | exact Les.refl _ | (repeat' (first | exact Les.refl _ | refine Les.cons ?_ ?_ | exact Le.refl _ | exact Le.own _ _ _ | exact Le.nil _ | refine Le.agg ?_))) ⟨rfl, rfl⟩) ?_
        refine DOps.gt 37 rfl rfl rfl rfl (op_callp (xs := [.tmp 34, .tmp 36]) rfl rfl ((Texts_c _ _).yes rfl) (by first | exact Les.refl _ | (repeat' (first | exact Les.refl _ | refine Les.cons ?_ ?_ | exact Le.refl _ | exact Le.own _ _ _ | exact Le.nil _ | refine Le.agg ?_))) ⟨rfl, rfl⟩) ?_
        refine DOps.st 38 rfl rfl (op_pick rfl rfl rfl ⟨rfl, rfl⟩) ?_
        refine DOps.st 39 rfl rfl (op_move rfl rfl ⟨rfl, rfl⟩) ?_
        first | (refine DOps.gt 40 rfl rfl rfl rfl (op_load_m (i := 0) rfl ta_24 rfl rfl rfl rfl ⟨rfl, rfl⟩) ?_) | (refine DOps.gt 40 rfl rfl rfl rfl (op_load_m (i := 1) rfl ta_24 rfl rfl rfl rfl ⟨rfl, rfl⟩) ?_) | (refine DOps.gt 40 rfl rfl rfl rfl (op_load_m (i := 2) rfl ta_24 rfl rfl rfl rfl ⟨rfl, rfl⟩) ?_) | (refine DOps.gt 40 rfl rfl rfl rfl (op_load_m (i := 3) rfl ta_24 rfl rfl rfl rfl ⟨rfl, rfl⟩) ?_) | (refine DOps.gt 40 rfl rfl rfl rfl (op_load_m (i := 4) rfl ta_24 rfl rfl rfl rfl ⟨rfl, rfl⟩) ?_) | (refine DOps.gt 40 rfl rfl rfl rfl (op_load_m (i := 5) rfl ta_24 rfl rfl rfl rfl ⟨rfl, rfl⟩) ?_) | (refine DOps.gt 40 rfl rfl rfl rfl (op_load_c rfl ta_24 rfl rfl rfl ⟨rfl, rfl⟩) ?_)
        refine DOps.gt 41 rfl rfl rfl rfl (op_callp (xs := [.tmp 40]) rfl rfl (HM hsz) (by first | exact Les.refl _ | (repeat' (first | exact Les.refl _ | refine Les.cons ?_ ?_ | exact Le.refl _ | exact Le.own _ _ _ | exact Le.nil _ | refine Le.agg ?_))) ⟨rfl, rfl⟩) ?_
        first | (refine DOps.gt 42 rfl rfl rfl rfl (op_load_m (i := 0) rfl ta_24 rfl rfl rfl rfl ⟨rfl, rfl⟩) ?_) | (refine DOps.gt 42 rfl rfl rfl rfl (op_load_m (i := 1) rfl ta_24 rfl rfl rfl rfl ⟨rfl, rfl⟩) ?_) | (refine DOps.gt 42 rfl rfl rfl rfl (op_load_m (i := 2) rfl ta_24 rfl rfl rfl rfl ⟨rfl, rfl⟩) ?_) | (refine DOps.gt 42 rfl rfl rfl rfl (op_load_m (i := 3) rfl ta_24 rfl rfl rfl rfl ⟨rfl, rfl⟩) ?_) | (refine DOps.gt 42 rfl rfl rfl rfl (op_load_m (i := 4) rfl ta_24 rfl rfl rfl rfl ⟨rfl, rfl⟩) ?_) | (refine DOps.gt 42 rfl rfl rfl rfl (op_load_m (i := 5) rfl ta_24 rfl rfl rfl rfl ⟨rfl, rfl⟩) ?_) | (refine DOps.gt 42 rfl rfl rfl rfl (op_load_c rfl ta_24 rfl rfl rfl ⟨rfl, rfl⟩) ?_)
        refine DOps.gt 43 rfl rfl rfl rfl (op_callp (xs := [.tmp 42]) rfl rfl (HRM hsz) (by first | exact Les.refl _ | (repeat' (first | exact Les.refl _ | refine Les.cons ?_ ?_ | exact Le.refl _ | exact Le.own _ _ _ | exact Le.nil _ | refine Le.agg ?_))) ⟨rfl, rfl⟩) ?_
        refine DOps.gt 44 rfl rfl rfl rfl (op_callp (xs := [.tmp 41, .tmp 43]) rfl rfl ((ints_c _ _).yes rfl) (by first | exact Les.refl _ | (repeat' (first | exact Les.refl _ | refine Les.cons ?_ ?_ | exact Le.refl _ | exact Le.own _ _ _ | exact Le.nil _ | refine Le.agg ?_))) ⟨rfl, rfl⟩) ?_
        refine DOps.st 45 rfl rfl (op_pick rfl rfl rfl ⟨rfl, rfl⟩) ?_
        refine DOps.st 46 rfl rfl (op_move rfl rfl ⟨rfl, rfl⟩) ?_
        first | (refine DOps.gt 47 rfl rfl rfl rfl (op_load_m (i := 0) rfl ta_24 rfl rfl rfl rfl ⟨rfl, rfl⟩) ?_) | (refine DOps.gt 47 rfl rfl rfl rfl (op_load_m (i := 1) rfl ta_24 rfl rfl rfl rfl ⟨rfl, rfl⟩) ?_) | (refine DOps.gt 47 rfl rfl rfl rfl (op_load_m (i := 2) rfl ta_24 rfl rfl rfl rfl ⟨rfl, rfl⟩) ?_) | (refine DOps.gt 47 rfl rfl rfl rfl (op_load_m (i := 3) rfl ta_24 rfl rfl rfl rfl ⟨rfl, rfl⟩) ?_) | (refine DOps.gt 47 rfl rfl rfl rfl (op_load_m (i := 4) rfl ta_24 rfl rfl rfl rfl ⟨rfl, rfl⟩) ?_) | (refine DOps.gt 47 rfl rfl rfl rfl (op_load_m (i := 5) rfl ta_24 rfl rfl rfl rfl ⟨rfl, rfl⟩) ?_) | (refine DOps.gt 47 rfl rfl rfl rfl (op_load_c rfl ta_24 rfl rfl rfl ⟨rfl, rfl⟩) ?_)
        refine DOps.gt 48 rfl rfl rfl rfl (op_callp (xs := [.tmp 47]) rfl rfl (HS hsz) (by first | exact Les.refl _ | (repeat' (first | exact Les.refl _ | refine Les.cons ?_ ?_ | exact Le.refl _ | exact Le.own _ _ _ | exact Le.nil _ | refine Le.agg ?_))) ⟨rfl, rfl⟩) ?_
        first | (refine DOps.gt 49 rfl rfl rfl rfl (op_load_m (i := 0) rfl ta_24 rfl rfl rfl rfl ⟨rfl, rfl⟩) ?_) | (refine DOps.gt 49 rfl rfl rfl rfl (op_load_m (i := 1) rfl ta_24 rfl rfl rfl rfl ⟨rfl, rfl⟩) ?_) | (refine DOps.gt 49 rfl rfl rfl rfl (op_load_m (i := 2) rfl ta_24 rfl rfl rfl rfl ⟨rfl, rfl⟩) ?_) | (refine DOps.gt 49 rfl rfl rfl rfl (op_load_m (i := 3) rfl ta_24 rfl rfl rfl rfl ⟨rfl, rfl⟩) ?_) | (refine DOps.gt 49 rfl rfl rfl rfl (op_load_m (i := 4) rfl ta_24 rfl rfl rfl rfl ⟨rfl, rfl⟩) ?_) | (refine DOps.gt 49 rfl rfl rfl rfl (op_load_m (i := 5) rfl ta_24 rfl rfl rfl rfl ⟨rfl, rfl⟩) ?_) | (refine DOps.gt 49 rfl rfl rfl rfl (op_load_c rfl ta_24 rfl rfl rfl ⟨rfl, rfl⟩) ?_)
        refine DOps.gt 50 rfl rfl rfl rfl (op_callp (xs := [.tmp 49]) rfl rfl (HAl hsz) (by first | exact Les.refl _ | (repeat' (first | exact Les.refl _ | refine Les.cons ?_ ?_ | exact Le.refl _ | exact Le.own _ _ _ | exact Le.nil _ | refine Le.agg ?_))) ⟨rfl, rfl⟩) ?_
        first | (refine DOps.gt 51 rfl rfl rfl rfl (op_len rfl tu_22 rfl (.seq _ _) (fun _ => ⟨rfl, rfl⟩)) ?_) | (refine DOps.gt 51 rfl rfl rfl rfl (op_len rfl tu_22 rfl (.own _ _ _) (fun _ => ⟨rfl, rfl⟩)) ?_) | (refine DOps.gt 51 rfl rfl rfl rfl (op_len rfl tu_22 rfl (.nil 0) (fun _ => ⟨rfl, rfl⟩)) ?_) | (refine DOps.gt 51 rfl rfl rfl rfl (op_len_arr rfl tu_22 rfl ⟨rfl, rfl⟩) ?_)
        refine DOps.gtc 52 rfl rfl rfl rfl (fun _ q => op_eql rfl rfl rfl q) ?_; intro c52 h52
        refine DOps.st 53 rfl rfl (op_pick rfl rfl rfl ⟨rfl, rfl⟩) ?_
        refine DOps.st 54 rfl rfl (op_move rfl rfl ⟨rfl, rfl⟩) ?_
        rcases bool_split h52 with ⟨rfl, g52⟩ | ⟨rfl, g52⟩
        · skip
          refine DOps.gf 55 rfl rfl rfl rfl ?_
          refine DOps.gf 56 rfl rfl rfl rfl ?_
          refine DOps.gf 57 rfl rfl rfl rfl ?_
          refine DOps.gf 58 rfl rfl rfl rfl ?_
          refine DOps.gf 59 rfl rfl rfl rfl ?_
          refine DOps.gf 60 rfl rfl rfl rfl ?_
          refine DOps.gf 61 rfl rfl rfl rfl ?_
          refine DOps.st 62 rfl rfl (op_pick rfl rfl rfl ⟨rfl, rfl⟩) ?_
          refine DOps.st 63 rfl rfl (op_move rfl rfl ⟨rfl, rfl⟩) ?_
          refine DOps.gf 64 rfl rfl rfl rfl ?_
          refine DOps.gf 65 rfl rfl rfl rfl ?_
          refine DOps.gf 66 rfl rfl rfl rfl ?_
          refine DOps.gf 67 rfl rfl rfl rfl ?_
          refine DOps.gf 68 rfl rfl rfl rfl ?_
          refine DOps.gf 69 rfl rfl rfl rfl ?_
          refine DOps.gf 70 rfl rfl rfl rfl ?_
          refine DOps.gf 71 rfl rfl rfl rfl ?_
          refine DOps.gf 72 rfl rfl rfl rfl ?_
          refine DOps.st 73 rfl rfl (op_pick rfl rfl rfl ⟨rfl, rfl⟩) ?_
          refine DOps.st 4 rfl rfl (op_assign rfl rfl ⟨rfl, rfl⟩) ?_
          show BoolQ _ _ _ _ _ _
          refine BoolQ.mk rfl ?_ (by repeat' (first | exact SLe.wo _ _ | exact SLe.refl _ | refine SLe.fresh rfl ?_)) (by first | exact MLe.none _ | exact MLe.refl _ | (repeat' (first | exact MLe.nil | exact MLe.refl _ | refine MLe.cons _ ?_ | refine MLe.drop _ ?_)))
          first | exact iff_t trivial | exact absurd (by rw [hal]) g52
        · skip
          first | (refine DOps.gt 55 rfl rfl rfl rfl (op_load_m (i := 0) rfl ta_24 rfl rfl rfl rfl ⟨rfl, rfl⟩) ?_) | (refine DOps.gt 55 rfl rfl rfl rfl (op_load_m (i := 1) rfl ta_24 rfl rfl rfl rfl ⟨rfl, rfl⟩) ?_) | (refine DOps.gt 55 rfl rfl rfl rfl (op_load_m (i := 2) rfl ta_24 rfl rfl rfl rfl ⟨rfl, rfl⟩) ?_) | (refine DOps.gt 55 rfl rfl rfl rfl (op_load_m (i := 3) rfl ta_24 rfl rfl rfl rfl ⟨rfl, rfl⟩) ?_) | (refine DOps.gt 55 rfl rfl rfl rfl (op_load_m (i := 4) rfl ta_24 rfl rfl rfl rfl ⟨rfl, rfl⟩) ?_) | (refine DOps.gt 55 rfl rfl rfl rfl (op_load_m (i := 5) rfl ta_24 rfl rfl rfl rfl ⟨rfl, rfl⟩) ?_) | (refine DOps.gt 55 rfl rfl rfl rfl (op_load_c rfl ta_24 rfl rfl rfl ⟨rfl, rfl⟩) ?_)
          first | (refine DOps.gt 56 rfl rfl rfl rfl (op_load_m (i := 0) rfl ta_24 rfl rfl rfl rfl ⟨rfl, rfl⟩) ?_) | (refine DOps.gt 56 rfl rfl rfl rfl (op_load_m (i := 1) rfl ta_24 rfl rfl rfl rfl ⟨rfl, rfl⟩) ?_) | (refine DOps.gt 56 rfl rfl rfl rfl (op_load_m (i := 2) rfl ta_24 rfl rfl rfl rfl ⟨rfl, rfl⟩) ?_) | (refine DOps.gt 56 rfl rfl rfl rfl (op_load_m (i := 3) rfl ta_24 rfl rfl rfl rfl ⟨rfl, rfl⟩) ?_) | (refine DOps.gt 56 rfl rfl rfl rfl (op_load_m (i := 4) rfl ta_24 rfl rfl rfl rfl ⟨rfl, rfl⟩) ?_) | (refine DOps.gt 56 rfl rfl rfl rfl (op_load_m (i := 5) rfl ta_24 rfl rfl rfl rfl ⟨rfl, rfl⟩) ?_) | (refine DOps.gt 56 rfl rfl rfl rfl (op_load_c rfl ta_24 rfl rfl rfl ⟨rfl, rfl⟩) ?_)
          refine DOps.gt 57 rfl rfl rfl rfl (op_callp (xs := [.tmp 55, .tmp 56]) rfl rfl (HF) (by first | exact Les.refl _ | (repeat' (first | exact Les.refl _ | refine Les.cons ?_ ?_ | exact Le.refl _ | exact Le.own _ _ _ | exact Le.nil _ | refine Le.agg ?_))) ⟨rfl, rfl⟩) ?_
          first | (refine DOps.gt 58 rfl rfl rfl rfl (op_load_m (i := 0) rfl ta_24 rfl rfl rfl rfl ⟨rfl, rfl⟩) ?_) | (refine DOps.gt 58 rfl rfl rfl rfl (op_load_m (i := 1) rfl ta_24 rfl rfl rfl rfl ⟨rfl, rfl⟩) ?_) | (refine DOps.gt 58 rfl rfl rfl rfl (op_load_m (i := 2) rfl ta_24 rfl rfl rfl rfl ⟨rfl, rfl⟩) ?_) | (refine DOps.gt 58 rfl rfl rfl rfl (op_load_m (i := 3) rfl ta_24 rfl rfl rfl rfl ⟨rfl, rfl⟩) ?_) | (refine DOps.gt 58 rfl rfl rfl rfl (op_load_m (i := 4) rfl ta_24 rfl rfl rfl rfl ⟨rfl, rfl⟩) ?_) | (refine DOps.gt 58 rfl rfl rfl rfl (op_load_m (i := 5) rfl ta_24 rfl rfl rfl rfl ⟨rfl, rfl⟩) ?_) | (refine DOps.gt 58 rfl rfl rfl rfl (op_load_c rfl ta_24 rfl rfl rfl ⟨rfl, rfl⟩) ?_)
          first | (refine DOps.gt 59 rfl rfl rfl rfl (op_load_m (i := 0) rfl ta_24 rfl rfl rfl rfl ⟨rfl, rfl⟩) ?_) | (refine DOps.gt 59 rfl rfl rfl rfl (op_load_m (i := 1) rfl ta_24 rfl rfl rfl rfl ⟨rfl, rfl⟩) ?_) | (refine DOps.gt 59 rfl rfl rfl rfl (op_load_m (i := 2) rfl ta_24 rfl rfl rfl rfl ⟨rfl, rfl⟩) ?_) | (refine DOps.gt 59 rfl rfl rfl rfl (op_load_m (i := 3) rfl ta_24 rfl rfl rfl rfl ⟨rfl, rfl⟩) ?_) | (refine DOps.gt 59 rfl rfl rfl rfl (op_load_m (i := 4) rfl ta_24 rfl rfl rfl rfl ⟨rfl, rfl⟩) ?_) | (refine DOps.gt 59 rfl rfl rfl rfl (op_load_m (i := 5) rfl ta_24 rfl rfl rfl rfl ⟨rfl, rfl⟩) ?_) | (refine DOps.gt 59 rfl rfl rfl rfl (op_load_c rfl ta_24 rfl rfl rfl ⟨rfl, rfl⟩) ?_)
          refine DOps.gt 60 rfl rfl rfl rfl (op_callp (xs := [.tmp 58, .tmp 59]) rfl rfl (HRF) (by first | exact Les.refl _ | (repeat' (first | exact Les.refl _ | refine Les.cons ?_ ?_ | exact Le.refl _ | exact Le.own _ _ _ | exact Le.nil _ | refine Le.agg ?_))) ⟨rfl, rfl⟩) ?_
          refine DOps.gt 61 rfl rfl rfl rfl (op_callp (xs := [.tmp 57, .tmp 60]) rfl rfl ((SameType_c _ _).yes rfl) (by first | exact Les.refl _ | (repeat' (first | exact Les.refl _ | refine Les.cons ?_ ?_ | exact Le.refl _ | exact Le.own _ _ _ | exact Le.nil _ | refine Le.agg ?_))) ⟨rfl, rfl⟩) ?_
          refine DOps.st 62 rfl rfl (op_pick rfl rfl rfl ⟨rfl, rfl⟩) ?_
          refine DOps.st 63 rfl rfl (op_move rfl rfl ⟨rfl, rfl⟩) ?_
          first | (refine DOps.gt 64 rfl rfl rfl rfl (op_load_m (i := 0) rfl ta_24 rfl rfl rfl rfl ⟨rfl, rfl⟩) ?_) | (refine DOps.gt 64 rfl rfl rfl rfl (op_load_m (i := 1) rfl ta_24 rfl rfl rfl rfl ⟨rfl, rfl⟩) ?_) | (refine DOps.gt 64 rfl rfl rfl rfl (op_load_m (i := 2) rfl ta_24 rfl rfl rfl rfl ⟨rfl, rfl⟩) ?_) | (refine DOps.gt 64 rfl rfl rfl rfl (op_load_m (i := 3) rfl ta_24 rfl rfl rfl rfl ⟨rfl, rfl⟩) ?_) | (refine DOps.gt 64 rfl rfl rfl rfl (op_load_m (i := 4) rfl ta_24 rfl rfl rfl rfl ⟨rfl, rfl⟩) ?_) | (refine DOps.gt 64 rfl rfl rfl rfl (op_load_m (i := 5) rfl ta_24 rfl rfl rfl rfl ⟨rfl, rfl⟩) ?_) | (refine DOps.gt 64 rfl rfl rfl rfl (op_load_c rfl ta_24 rfl rfl rfl ⟨rfl, rfl⟩) ?_)
          first | (refine DOps.gt 65 rfl rfl rfl rfl (op_load_m (i := 0) rfl ta_24 rfl rfl rfl rfl ⟨rfl, rfl⟩) ?_) | (refine DOps.gt 65 rfl rfl rfl rfl (op_load_m (i := 1) rfl ta_24 rfl rfl rfl rfl ⟨rfl, rfl⟩) ?_) | (refine DOps.gt 65 rfl rfl rfl rfl (op_load_m (i := 2) rfl ta_24 rfl rfl rfl rfl ⟨rfl, rfl⟩) ?_) | (refine DOps.gt 65 rfl rfl rfl rfl (op_load_m (i := 3) rfl ta_24 rfl rfl rfl rfl ⟨rfl, rfl⟩) ?_) | (refine DOps.gt 65 rfl rfl rfl rfl (op_load_m (i := 4) rfl ta_24 rfl rfl rfl rfl ⟨rfl, rfl⟩) ?_) | (refine DOps.gt 65 rfl rfl rfl rfl (op_load_m (i := 5) rfl ta_24 rfl rfl rfl rfl ⟨rfl, rfl⟩) ?_) | (refine DOps.gt 65 rfl rfl rfl rfl (op_load_c rfl ta_24 rfl rfl rfl ⟨rfl, rfl⟩) ?_)
          refine DOps.gt 66 rfl rfl rfl rfl (op_buildSlice (xs := [.tmp 64, .tmp 65]) el_22 rfl rfl rfl rfl rfl rfl (Nat.le_of_ble_eq_true rfl) ⟨rfl, rfl⟩) ?_
          refine DOps.gt 67 rfl rfl rfl rfl (op_callp (xs := [.const (.string ⟨#[80, 97, 105, 114]⟩), .tmp 66]) rfl rfl (HC) (by first | exact Les.refl _ | (repeat' (first | exact Les.refl _ | refine Les.cons ?_ ?_ | exact Le.refl _ | exact Le.own _ _ _ | exact Le.nil _ | refine Le.agg ?_))) ⟨rfl, rfl⟩) ?_
          first | (refine DOps.gt 68 rfl rfl rfl rfl (op_load_m (i := 0) rfl ta_24 rfl rfl rfl rfl ⟨rfl, rfl⟩) ?_) | (refine DOps.gt 68 rfl rfl rfl rfl (op_load_m (i := 1) rfl ta_24 rfl rfl rfl rfl ⟨rfl, rfl⟩) ?_) | (refine DOps.gt 68 rfl rfl rfl rfl (op_load_m (i := 2) rfl ta_24 rfl rfl rfl rfl ⟨rfl, rfl⟩) ?_) | (refine DOps.gt 68 rfl rfl rfl rfl (op_load_m (i := 3) rfl ta_24 rfl rfl rfl rfl ⟨rfl, rfl⟩) ?_) | (refine DOps.gt 68 rfl rfl rfl rfl (op_load_m (i := 4) rfl ta_24 rfl rfl rfl rfl ⟨rfl, rfl⟩) ?_) | (refine DOps.gt 68 rfl rfl rfl rfl (op_load_m (i := 5) rfl ta_24 rfl rfl rfl rfl ⟨rfl, rfl⟩) ?_) | (refine DOps.gt 68 rfl rfl rfl rfl (op_load_c rfl ta_24 rfl rfl rfl ⟨rfl, rfl⟩) ?_)
          first | (refine DOps.gt 69 rfl rfl rfl rfl (op_load_m (i := 0) rfl ta_24 rfl rfl rfl rfl ⟨rfl, rfl⟩) ?_) | (refine DOps.gt 69 rfl rfl rfl rfl (op_load_m (i := 1) rfl ta_24 rfl rfl rfl rfl ⟨rfl, rfl⟩) ?_) | (refine DOps.gt 69 rfl rfl rfl rfl (op_load_m (i := 2) rfl ta_24 rfl rfl rfl rfl ⟨rfl, rfl⟩) ?_) | (refine DOps.gt 69 rfl rfl rfl rfl (op_load_m (i := 3) rfl ta_24 rfl rfl rfl rfl ⟨rfl, rfl⟩) ?_) | (refine DOps.gt 69 rfl rfl rfl rfl (op_load_m (i := 4) rfl ta_24 rfl rfl rfl rfl ⟨rfl, rfl⟩) ?_) | (refine DOps.gt 69 rfl rfl rfl rfl (op_load_m (i := 5) rfl ta_24 rfl rfl rfl rfl ⟨rfl, rfl⟩) ?_) | (refine DOps.gt 69 rfl rfl rfl rfl (op_load_c rfl ta_24 rfl rfl rfl ⟨rfl, rfl⟩) ?_)
          refine DOps.gt 70 rfl rfl rfl rfl (op_buildSlice (xs := [.tmp 68, .tmp 69]) el_22 rfl rfl rfl rfl rfl rfl (Nat.le_of_ble_eq_true rfl) ⟨rfl, rfl⟩) ?_
          refine DOps.gt 71 rfl rfl rfl rfl (op_build (ns := [0, 1, 3]) (xs := [.const (.int .i64 3), .const (.string ⟨#[80, 97, 105, 114]⟩), .tmp 70]) rfl tz_24 rfl tfl_24 rfl rfl rfl rfl ⟨rfl, rfl⟩) ?_
          refine DOps.gt 72 rfl rfl rfl rfl (op_callp (xs := [.tmp 67, .tmp 71]) rfl rfl ((SameType_c (.mk 3 ⟨#[80, 97, 105, 114]⟩ 0 [.mk k s n ks, .mk k2 s2 n2 ks2]) (.mk 3 ⟨#[80, 97, 105, 114]⟩ 0 [.mk k s n ks, .mk k2 s2 n2 ks2])).yes rfl) (by first | exact Les.refl _ | (repeat' (first | exact Les.refl _ | refine Les.cons ?_ ?_ | exact Le.refl _ | exact Le.own _ _ _ | exact Le.nil _ | refine Le.agg ?_))) ⟨rfl, rfl⟩) ?_
          refine DOps.st 73 rfl rfl (op_pick rfl rfl rfl ⟨rfl, rfl⟩) ?_
          refine DOps.st 4 rfl rfl (op_assign rfl rfl ⟨rfl, rfl⟩) ?_
          show BoolQ _ _ _ _ _ _
          refine BoolQ.mk rfl ?_ (by repeat' (first | exact SLe.wo _ _ | exact SLe.refl _ | refine SLe.fresh rfl ?_)) (by first | exact MLe.none _ | exact MLe.refl _ | (repeat' (first | exact MLe.nil | exact MLe.refl _ | refine MLe.cons _ ?_ | refine MLe.drop _ ?_)))
          first | exact iff_t trivial | exact absurd (by rw [hal]) g52
      intro c4 h4
      refine go_code ?_
      refine c_ret ?_
      exact out_tmp rfl rfl (Le.refl _) (MLe.refl _) (by rw [h4.2 trivial])
    · refine c_cond_t rfl ?_
      refine c_seq ?_
      refine c_region ?_
      refine AOps.st 4 rfl rfl rfl (op_assign rfl rfl ?_)
      refine AOps.nil ?_
      refine go_code ?_
      refine c_ret ?_
      exact out_tmp rfl rfl (Le.refl _) (MLe.refl _) rfl
  · refine c_cond_t rfl ?_
    refine c_seq ?_
    exact absurd g8 (by simp)
theorem typesAsk_own : ownKnob Try.prog.godebug = none := by kernel_rfl
theorem typesAsk_laidOut : laidOutB Try.prog = true := by kernel_rfl
set_option maxRecDepth 100000 in
theorem typesAsk_lifted (os : Os) (started : os.Started) (H : Type) (enc : TypeId × Value → H) :
    ReturnsInHanded {} Try.checked os 5 .any (Rows.typesAskSpec.pre6 enc Try.prog Try.f5 Rows.typesAskRow.domain false) (Rows.typesAskSpec.post enc Try.prog Try.f5 false true false false) := by
  refine returnsInHanded_of_change_sized (C := Try.checked) typesAsk_own started (by kernel_rfl) Try.func5
    (ChangeSpec.witness6 (enc := enc) (C := Try.checked) false ⟨#[], #[.agg #[.int .i64 0, .string ⟨#[]⟩, .int .i64 0, .slice none 0 0], .agg #[.int .i64 0, .string ⟨#[]⟩, .int .i64 0, .slice none 0 0]], []⟩ 8 (by kernel_rfl) (by kernel_rfl) (by kernel_rfl) (by kernel_rfl)) ?_
  intro W base args ds gs before hval0 hW hcnd hsz0 _
  have hval : ∀ (j : Nat) t v, Try.f5.params[j]? = some t → args[j]? = some v → Value.okWide Try.prog W .any base t v := hval0
  have hsz : (DataW.weightsEach Try.prog (Try.f5.params.toList ++ Rows.typesAskSpec.plain.varTypes Try.prog) (ds ++ gs)).all (· ≤ reachBytes) = true := hsz0
  have hW' := hW
  obtain ⟨p, q, hA0, hV, rfl, hfz, hnd⟩ := hW
  have hA : DataW.TrodAll enc Try.prog W 0 (fun _ => true) true Try.f5.params.toList args.toList ds p := hA0
  rw [Try.params5] at hA hval hsz
  obtain ⟨rfl, rfl⟩ := trodVars_none hV
  obtain ⟨v0, v1, d0, d1, p0, p1, rfl, rfl, rfl, h0, h1⟩ := trodAll_two hA
  obtain ⟨f0, c0, s0, r0, o0⟩ := open_one closed08 (by decide) h0
  obtain ⟨t, rfl⟩ := shape_ty _ _ s0
  obtain ⟨f1, c1, s1, r1, o1⟩ := open_one closed08 (by decide) h1
  obtain ⟨u, rfl⟩ := shape_ty _ _ s1
  refine (law_run (TypesAsk_c t u) (.cons (rel_agg' (by cases t; simp [Ty.cells]) r0 o0) (.cons (rel_agg' (by cases u; simp [Ty.cells]) r1 o1) .nil))).mono fun e W' ⟨he, hb⟩ => ?_
  subst he
  exact ⟨_, rfl, law_post (tb := 4) typesAsk_laidOut (by kernel_rfl) (by kernel_rfl) Try.underlying4 rfl rfl rfl rfl hW' hb⟩
theorem typesAsk_holds : Rows.TypesAskSaid :=
  OpenClaim.holds_of_wide 5 Try.f5 rfl rfl rfl rfl rfl rfl rfl ⟨rfl, rfl, rfl, rfl, rfl⟩ rfl rfl rfl rfl rfl (by kernel_rfl) Try.func5 (by kernel_rfl)
    (of_decide_eq_true (by kernel_rfl)) (by unfold Func.isWrapper; first | (rw [if_pos (by decide +kernel)]; kernel_rfl) | (rw [if_neg (by decide +kernel)]; exact ⟨rfl, rfl⟩))
    (fun os started H enc _ => typesAsk_lifted os started H enc)
#print axioms typesAsk_holds
end Go.Proofs.Ytjgjnheeohfmmaa
