/- cognatelaw05.Awake -/
import Derived.Test.YtjgjnheeohfmmaaB05v
import Derived.Test.YtjgjnheeohfmmaaB05p
namespace Go.Proofs.Ytjgjnheeohfmmaa
open Go.RowKit
abbrev tZ : Ty := .mk 0 ⟨#[]⟩ 0 []
abbrev eX : Ex := .mk 3 ⟨#[120]⟩ 0 tZ [] [] [] 0
abbrev eF : Ex := .mk 3 ⟨#[102]⟩ 0 tZ [] [] [] 0
abbrev eCall : Ex := .mk 5 ⟨#[]⟩ 0 tZ [eF, eX] [] [] 0
abbrev eLam : Ex := .mk 6 ⟨#[120]⟩ 0 tZ [eCall] [] [] 0
theorem eX_sz : eX.sz = 1 := by rw [Ex.sz_eq]; rfl
theorem eF_sz : eF.sz = 1 := by rw [Ex.sz_eq]; rfl
theorem eCall_sz : eCall.sz = 3 := by
  rw [Ex.sz_eq]
  show 1 + (eF.sz + (eX.sz + 0)) = 3
  rw [eF_sz, eX_sz]
theorem eLam_sz : eLam.sz = 4 := by
  rw [Ex.sz_eq]
  show 1 + (eCall.sz + 0) = 4
  rw [eCall_sz]
theorem eX_dp : eX.dp = 1 := by rw [Ex.dp_eq]; rfl
theorem eF_dp : eF.dp = 1 := by rw [Ex.dp_eq]; rfl
theorem eCall_dp : eCall.dp = 2 := by
  rw [Ex.dp_eq]
  show 1 + max eF.dp (max eX.dp 0) = 2
  rw [eF_dp, eX_dp]; rfl
theorem eLam_dp : eLam.dp = 3 := by
  rw [Ex.dp_eq]
  show 1 + max eCall.dp 0 = 3
  rw [eCall_dp]; rfl
theorem eLam_fr : eLam.fr [] [] = [⟨#[102]⟩] := by
  simp [Ex.fr, Ex.frs, Al.frs, Bi.frs]
theorem ACall.bal {P : Program} {f : FuncId} {vs : List AV} {p q : Prop} (h : BCall P f vs p) (e : p ↔ q) : BCall P f vs q :=
  h.mono (by rintro v M' ⟨⟨c, hc, rfl⟩, rfl⟩; exact ⟨⟨c, hc.trans e, rfl⟩, rfl⟩)
set_option maxHeartbeats 4000000 in
set_option maxRecDepth 100000 in
theorem awake05_c : PCall Try.prog 39 [] (.val (.bool true)) := by
  have HF : OCall Try.prog 52 [.agg eLam.cells] 9 1 (strs [⟨#[102]⟩]) := by
    have := Free_c eLam (by simp [Ex.w, Ex.ws, Al.ws, Bi.ws])
    rwa [eLam_fr] at this
  have HV : BCall Try.prog 54 [.agg eLam.cells] True := (tValue_c eLam).bal (by simp [Ex.val_iff])
  have HC : BCall Try.prog 54 [.agg eCall.cells] False := (tValue_c eCall).bal (by simp [Ex.val_iff, Ex.kind])
  have HS : PCall Try.prog 41 [.agg eLam.cells] (.val (.int .i64 4)) := by
    have := Size_c eLam (by rw [eLam_sz]; omega)
    rwa [eLam_sz] at this
  have HD : PCall Try.prog 43 [.agg eLam.cells] (.val (.int .i64 3)) := by
    have := Deep_c eLam (by rw [eLam_sz]; omega)
    rwa [eLam_dp] at this
  have HM : BCall Try.prog 45 [.agg eLam.cells, .agg eLam.cells] True := (tSame_c eLam eLam).bal (by simp)
  refine ACall.enter Try.func39 rfl (by kernel_rfl) rfl (Nat.le_of_ble_eq_true rfl) ?_
  refine c_start ?_
  refine c_seq ?_
  refine c_region ?_
  refine AOps.st 0 rfl rfl rfl (op_assign rfl rfl ?_)
  refine AOps.nil ?_
  refine go_code ?_
  refine c_seq ?_
  refine c_region ?_
  refine AOps.st 6 rfl rfl rfl (op_build (ns := [0, 1]) (xs := [.const (.int .i64 3), .const (.string ⟨#[120]⟩)]) rfl tz_60 rfl tfl_60 rfl rfl rfl rfl ?_)
  refine AOps.st 7 rfl rfl rfl (op_build (ns := [0, 1]) (xs := [.const (.int .i64 3), .const (.string ⟨#[102]⟩)]) rfl tz_60 rfl tfl_60 rfl rfl rfl rfl ?_)
  refine AOps.st 1 rfl rfl rfl (op_alloce (cs' := [_, _, _, _, _, _, _, _, _, _, _]) rfl tz_60 rfl rfl ?_); intro b1
  refine AOps.st 2 rfl rfl rfl (op_alloce (cs' := [_, _, _, _, _, _, _, _, _, _, _]) rfl tz_60 rfl rfl ?_); intro b2
  first | (refine AOps.st0 rfl rfl (op_store (cs' := [_, _, _, _, _, _, _, _, _, _, _]) (i := 0) rfl ts_60 rfl rfl rfl rfl rfl (Nat.le_of_ble_eq_true rfl) rfl ?_)) | (refine AOps.st0 rfl rfl (op_store (cs' := [_, _, _, _, _, _, _, _, _, _, _]) (i := 1) rfl ts_60 rfl rfl rfl rfl rfl (Nat.le_of_ble_eq_true rfl) rfl ?_))
  refine AOps.st0 rfl rfl (op_store (cs' := [_, _, _, _, _, _, _, _, _, _, _]) (i := 0) rfl ts_60 rfl rfl rfl rfl rfl (Nat.le_of_ble_eq_true rfl) rfl ?_)
  refine AOps.nil ?_
  refine go_code ?_
  refine c_seq ?_
  refine c_region ?_
  refine AOps.st 8 rfl rfl rfl (op_load_m (cs' := [_, _, _, _, _, _, _, _, _, _, _]) (i := 0) rfl ta_60 rfl rfl rfl rfl ?_)
  first | (refine AOps.st 9 rfl rfl rfl (op_load_m (cs' := [_, _, _, _, _, _, _, _, _, _, _]) (i := 0) rfl ta_60 rfl rfl rfl rfl ?_)) | (refine AOps.st 9 rfl rfl rfl (op_load_m (cs' := [_, _, _, _, _, _, _, _, _, _, _]) (i := 1) rfl ta_60 rfl rfl rfl rfl ?_))
  refine AOps.st 10 rfl rfl rfl (op_buildSlice (xs := [.tmp 8, .tmp 9]) el_56 rfl rfl rfl rfl rfl rfl (Nat.le_of_ble_eq_true rfl) ?_)
  refine AOps.st 11 rfl rfl rfl (op_build (ns := [0, 4]) (xs := [.const (.int .i64 5), .tmp 10]) rfl tz_60 rfl tfl_60 rfl rfl rfl rfl ?_)
  refine AOps.st 3 rfl rfl rfl (op_alloce (cs' := [_, _, _, _, _, _, _, _, _, _, _]) rfl tz_60 rfl rfl ?_); intro b3
  refine AOps.st0 rfl rfl (op_store (cs' := [_, _, _, _, _, _, _, _, _, _, _]) (i := 0) rfl ts_60 rfl rfl rfl rfl rfl (Nat.le_of_ble_eq_true rfl) rfl ?_)
  refine AOps.nil ?_
  refine go_code ?_
  refine c_seq ?_
  refine c_le (SLe.refl _) (MLe.loc _ (cs' := eCall.cells) (by repeat' (first | exact Le.refl _ | exact Le.nil _ | refine Le.agg ?_ | refine Le.seq ?_ | exact Less.nil | refine Less.cons ?_ rfl ?_ | exact Les.refl _ | refine Les.cons ?_ ?_)) (MLe.refl _)) ?_
  refine c_region ?_
  refine AOps.st 12 rfl rfl rfl (op_load_m (cs' := [_, _, _, _, _, _, _, _, _, _, _]) (i := 0) rfl ta_60 rfl rfl rfl rfl ?_)
  refine AOps.st 13 rfl rfl rfl (op_buildSlice (xs := [.tmp 12]) el_56 rfl rfl rfl rfl rfl rfl (Nat.le_of_ble_eq_true rfl) ?_)
  refine AOps.st 14 rfl rfl rfl (op_build (ns := [0, 1, 4]) (xs := [.const (.int .i64 6), .const (.string ⟨#[120]⟩), .tmp 13]) rfl tz_60 rfl tfl_60 rfl rfl rfl rfl ?_)
  refine AOps.st 4 rfl rfl rfl (op_alloce (cs' := [_, _, _, _, _, _, _, _, _, _, _]) rfl tz_60 rfl rfl ?_); intro b4
  refine AOps.st0 rfl rfl (op_store (cs' := [_, _, _, _, _, _, _, _, _, _, _]) (i := 0) rfl ts_60 rfl rfl rfl rfl rfl (Nat.le_of_ble_eq_true rfl) rfl ?_)
  refine AOps.nil ?_
  refine go_code ?_
  refine c_seq ?_
  refine c_le (SLe.refl _) (MLe.loc _ (cs' := eLam.cells) (by repeat' (first | exact Le.refl _ | exact Le.nil _ | refine Le.agg ?_ | refine Le.seq ?_ | exact Less.nil | refine Less.cons ?_ rfl ?_ | exact Les.refl _ | refine Les.cons ?_ ?_)) (MLe.refl _)) ?_
  refine c_region ?_
  refine AOps.st 15 rfl rfl rfl (op_load_m (cs' := [_, _, _, _, _, _, _, _, _, _, _]) (i := 0) rfl ta_60 rfl rfl rfl rfl ?_)
  refine AOps.st 16 rfl rfl rfl (op_callo (xs := [.tmp 15]) rfl rfl (HF) (by first | exact Les.refl _ | (repeat' (first | exact Les.refl _ | refine Les.cons ?_ ?_ | exact Le.refl _ | exact Le.own _ _ _ | exact Le.nil _ | refine Le.agg ?_))) ?_); intro u16
  refine AOps.st 5 rfl rfl rfl (op_assign rfl rfl ?_)
  refine AOps.nil ?_
  refine go_code ?_
  refine c_seq ?_
  refine c_bool 0 (True) ?_ _ _ rfl ?_
  · skip
    refine AOps.st 17 rfl rfl rfl (op_move rfl rfl ?_)
    first | (refine AOps.st 18 rfl rfl rfl (op_len rfl tu_27 rfl (.seq _ _) (fun n18 => ?_))) | (refine AOps.st 18 rfl rfl rfl (op_len rfl tu_27 rfl (.own _ _ _) (fun n18 => ?_)))
    refine AOps.st 19 rfl rfl rfl (op_eql rfl rfl rfl ?_); intro c19 h19
    refine AOps.st 20 rfl rfl rfl (op_move rfl rfl ?_)
    rcases bool_split h19 with ⟨rfl, g19⟩ | ⟨rfl, g19⟩
    · skip
      refine AOps.gf 21 rfl rfl rfl rfl rfl ?_
      refine AOps.gf 22 rfl rfl rfl rfl rfl ?_
      refine AOps.gf 23 rfl rfl rfl rfl rfl ?_
      refine AOps.gf 24 rfl rfl rfl rfl rfl ?_
      refine AOps.st 25 rfl rfl rfl (op_pick rfl rfl rfl ?_)
      refine AOps.st 26 rfl rfl rfl (op_move rfl rfl ?_)
      refine AOps.gf 27 rfl rfl rfl rfl rfl ?_
      refine AOps.gf 28 rfl rfl rfl rfl rfl ?_
      refine AOps.st 29 rfl rfl rfl (op_pick rfl rfl rfl ?_)
      refine AOps.st 30 rfl rfl rfl (op_move rfl rfl ?_)
      refine AOps.gf 31 rfl rfl rfl rfl rfl ?_
      refine AOps.gf 32 rfl rfl rfl rfl rfl ?_
      refine AOps.gf 33 rfl rfl rfl rfl rfl ?_
      refine AOps.st 34 rfl rfl rfl (op_pick rfl rfl rfl ?_)
      refine AOps.st 35 rfl rfl rfl (op_move rfl rfl ?_)
      refine AOps.gf 36 rfl rfl rfl rfl rfl ?_
      refine AOps.gf 37 rfl rfl rfl rfl rfl ?_
      refine AOps.gf 38 rfl rfl rfl rfl rfl ?_
      refine AOps.st 39 rfl rfl rfl (op_pick rfl rfl rfl ?_)
      refine AOps.st 40 rfl rfl rfl (op_move rfl rfl ?_)
      refine AOps.gf 41 rfl rfl rfl rfl rfl ?_
      refine AOps.gf 42 rfl rfl rfl rfl rfl ?_
      refine AOps.gf 43 rfl rfl rfl rfl rfl ?_
      refine AOps.st 44 rfl rfl rfl (op_pick rfl rfl rfl ?_)
      refine AOps.st 45 rfl rfl rfl (op_move rfl rfl ?_)
      refine AOps.gf 46 rfl rfl rfl rfl rfl ?_
      refine AOps.gf 47 rfl rfl rfl rfl rfl ?_
      refine AOps.gf 48 rfl rfl rfl rfl rfl ?_
      refine AOps.st 49 rfl rfl rfl (op_pick rfl rfl rfl ?_)
      refine AOps.st 0 rfl rfl rfl (op_assign rfl rfl ?_)
      refine AOps.nil ?_
      refine BoolQ.mk rfl ?_ (by repeat' (first | exact SLe.wo _ _ | exact SLe.refl _ | refine SLe.fresh rfl ?_)) (by first | exact MLe.none _ | exact MLe.refl _ | (repeat' (first | exact MLe.nil | exact MLe.refl _ | refine MLe.cons _ ?_ | refine MLe.drop _ ?_)))
      first | (simp_all; done) | exact absurd rfl g19
    · skip
      refine AOps.gt 21 rfl rfl rfl rfl rfl (op_move rfl rfl ?_)
      first | (refine AOps.gt 22 rfl rfl rfl rfl rfl (op_index rfl te_27 rfl (.seq _ _) rfl rfl (rfl) ?_)) | (refine AOps.gt 22 rfl rfl rfl rfl rfl (op_index (i := 0) rfl te_27 rfl (.seq _ _) rfl rfl (by first | rfl | assumption) ?_)) | (refine AOps.gt 22 rfl rfl rfl rfl rfl (op_index (i := 1) rfl te_27 rfl (.seq _ _) rfl rfl (by first | rfl | assumption) ?_)) | (refine AOps.gt 22 rfl rfl rfl rfl rfl (op_index rfl te_27 rfl (.own _ _ _) rfl rfl (rfl) ?_))
      first | (refine AOps.gt 23 rfl rfl rfl rfl rfl (op_load_m1 (i := 0) rfl ta_9 rfl rfl rfl ?_)) | (refine AOps.gt 23 rfl rfl rfl rfl rfl (op_load_m1 (i := 1) rfl ta_9 rfl rfl rfl ?_)) | (refine AOps.gt 23 rfl rfl rfl rfl rfl (op_load_m1 (i := 2) rfl ta_9 rfl rfl rfl ?_)) | (refine AOps.gt 23 rfl rfl rfl rfl rfl (op_load_m1 (i := 3) rfl ta_9 rfl rfl rfl ?_)) | (refine AOps.gt 23 rfl rfl rfl rfl rfl (op_load_m1 (i := 4) rfl ta_9 rfl rfl rfl ?_)) | (refine AOps.gt 23 rfl rfl rfl rfl rfl (op_load_m1 (i := 5) rfl ta_9 rfl rfl rfl ?_)) | (refine AOps.gt 23 rfl rfl rfl rfl rfl (op_load_c1 rfl ta_9 rfl rfl ?_))
      refine AOps.gt 24 rfl rfl rfl rfl rfl (op_seql rfl rfl rfl ?_); intro c24 h24
      refine AOps.st 25 rfl rfl rfl (op_pick rfl rfl rfl ?_)
      refine AOps.st 26 rfl rfl rfl (op_move rfl rfl ?_)
      rcases bool_split h24 with ⟨rfl, g24⟩ | ⟨rfl, g24⟩
      · skip
        refine AOps.gf 27 rfl rfl rfl rfl rfl ?_
        refine AOps.gf 28 rfl rfl rfl rfl rfl ?_
        refine AOps.st 29 rfl rfl rfl (op_pick rfl rfl rfl ?_)
        refine AOps.st 30 rfl rfl rfl (op_move rfl rfl ?_)
        refine AOps.gf 31 rfl rfl rfl rfl rfl ?_
        refine AOps.gf 32 rfl rfl rfl rfl rfl ?_
        refine AOps.gf 33 rfl rfl rfl rfl rfl ?_
        refine AOps.st 34 rfl rfl rfl (op_pick rfl rfl rfl ?_)
        refine AOps.st 35 rfl rfl rfl (op_move rfl rfl ?_)
        refine AOps.gf 36 rfl rfl rfl rfl rfl ?_
        refine AOps.gf 37 rfl rfl rfl rfl rfl ?_
        refine AOps.gf 38 rfl rfl rfl rfl rfl ?_
        refine AOps.st 39 rfl rfl rfl (op_pick rfl rfl rfl ?_)
        refine AOps.st 40 rfl rfl rfl (op_move rfl rfl ?_)
        refine AOps.gf 41 rfl rfl rfl rfl rfl ?_
        refine AOps.gf 42 rfl rfl rfl rfl rfl ?_
        refine AOps.gf 43 rfl rfl rfl rfl rfl ?_
        refine AOps.st 44 rfl rfl rfl (op_pick rfl rfl rfl ?_)
        refine AOps.st 45 rfl rfl rfl (op_move rfl rfl ?_)
        refine AOps.gf 46 rfl rfl rfl rfl rfl ?_
        refine AOps.gf 47 rfl rfl rfl rfl rfl ?_
        refine AOps.gf 48 rfl rfl rfl rfl rfl ?_
        refine AOps.st 49 rfl rfl rfl (op_pick rfl rfl rfl ?_)
        refine AOps.st 0 rfl rfl rfl (op_assign rfl rfl ?_)
        refine AOps.nil ?_
        refine BoolQ.mk rfl ?_ (by repeat' (first | exact SLe.wo _ _ | exact SLe.refl _ | refine SLe.fresh rfl ?_)) (by first | exact MLe.none _ | exact MLe.refl _ | (repeat' (first | exact MLe.nil | exact MLe.refl _ | refine MLe.cons _ ?_ | refine MLe.drop _ ?_)))
        first | (simp_all; done) | exact absurd rfl g19
      · skip
        first | (refine AOps.gt 27 rfl rfl rfl rfl rfl (op_load_m (cs' := [_, _, _, _, _, _, _, _, _, _, _]) (i := 0) rfl ta_60 rfl rfl rfl rfl ?_)) | (refine AOps.gt 27 rfl rfl rfl rfl rfl (op_load_m (cs' := [_, _, _, _, _, _, _, _, _, _, _]) (i := 1) rfl ta_60 rfl rfl rfl rfl ?_))
        refine AOps.gt 28 rfl rfl rfl rfl rfl (op_callb (xs := [.tmp 27]) rfl rfl (HV) (by first | exact Les.refl _ | (repeat' (first | exact Les.refl _ | refine Les.cons ?_ ?_ | exact Le.refl _ | exact Le.own _ _ _ | exact Le.nil _ | refine Le.agg ?_))) ?_); intro c28 h28
        refine AOps.st 29 rfl rfl rfl (op_pick rfl rfl rfl ?_)
        refine AOps.st 30 rfl rfl rfl (op_move rfl rfl ?_)
        rcases bool_split h28 with ⟨rfl, g28⟩ | ⟨rfl, g28⟩
        · skip
          refine AOps.gf 31 rfl rfl rfl rfl rfl ?_
          refine AOps.gf 32 rfl rfl rfl rfl rfl ?_
          refine AOps.gf 33 rfl rfl rfl rfl rfl ?_
          refine AOps.st 34 rfl rfl rfl (op_pick rfl rfl rfl ?_)
          refine AOps.st 35 rfl rfl rfl (op_move rfl rfl ?_)
          refine AOps.gf 36 rfl rfl rfl rfl rfl ?_
          refine AOps.gf 37 rfl rfl rfl rfl rfl ?_
          refine AOps.gf 38 rfl rfl rfl rfl rfl ?_
          refine AOps.st 39 rfl rfl rfl (op_pick rfl rfl rfl ?_)
          refine AOps.st 40 rfl rfl rfl (op_move rfl rfl ?_)
          refine AOps.gf 41 rfl rfl rfl rfl rfl ?_
          refine AOps.gf 42 rfl rfl rfl rfl rfl ?_
          refine AOps.gf 43 rfl rfl rfl rfl rfl ?_
          refine AOps.st 44 rfl rfl rfl (op_pick rfl rfl rfl ?_)
          refine AOps.st 45 rfl rfl rfl (op_move rfl rfl ?_)
          refine AOps.gf 46 rfl rfl rfl rfl rfl ?_
          refine AOps.gf 47 rfl rfl rfl rfl rfl ?_
          refine AOps.gf 48 rfl rfl rfl rfl rfl ?_
          refine AOps.st 49 rfl rfl rfl (op_pick rfl rfl rfl ?_)
          refine AOps.st 0 rfl rfl rfl (op_assign rfl rfl ?_)
          refine AOps.nil ?_
          refine BoolQ.mk rfl ?_ (by repeat' (first | exact SLe.wo _ _ | exact SLe.refl _ | refine SLe.fresh rfl ?_)) (by first | exact MLe.none _ | exact MLe.refl _ | (repeat' (first | exact MLe.nil | exact MLe.refl _ | refine MLe.cons _ ?_ | refine MLe.drop _ ?_)))
          first | (simp_all; done) | exact absurd rfl g19
        · skip
          first | (refine AOps.gt 31 rfl rfl rfl rfl rfl (op_load_m (cs' := [_, _, _, _, _, _, _, _, _, _, _]) (i := 0) rfl ta_60 rfl rfl rfl rfl ?_)) | (refine AOps.gt 31 rfl rfl rfl rfl rfl (op_load_m (cs' := [_, _, _, _, _, _, _, _, _, _, _]) (i := 1) rfl ta_60 rfl rfl rfl rfl ?_)) | (refine AOps.gt 31 rfl rfl rfl rfl rfl (op_load_m (cs' := [_, _, _, _, _, _, _, _, _, _, _]) (i := 2) rfl ta_60 rfl rfl rfl rfl ?_))
          refine AOps.gt 32 rfl rfl rfl rfl rfl (op_callb (xs := [.tmp 31]) rfl rfl (HC) (by first | exact Les.refl _ | (repeat' (first | exact Les.refl _ | refine Les.cons ?_ ?_ | exact Le.refl _ | exact Le.own _ _ _ | exact Le.nil _ | refine Le.agg ?_))) ?_); intro c32 h32
          refine AOps.gt 33 rfl rfl rfl rfl rfl (op_notc rfl rfl ?_); intro c33 h33
          try replace h33 := nott h33 h32
          refine AOps.st 34 rfl rfl rfl (op_pick rfl rfl rfl ?_)
          refine AOps.st 35 rfl rfl rfl (op_move rfl rfl ?_)
          rcases bool_split h33 with ⟨rfl, g33⟩ | ⟨rfl, g33⟩
          · skip
            refine AOps.gf 36 rfl rfl rfl rfl rfl ?_
            refine AOps.gf 37 rfl rfl rfl rfl rfl ?_
            refine AOps.gf 38 rfl rfl rfl rfl rfl ?_
            refine AOps.st 39 rfl rfl rfl (op_pick rfl rfl rfl ?_)
            refine AOps.st 40 rfl rfl rfl (op_move rfl rfl ?_)
            refine AOps.gf 41 rfl rfl rfl rfl rfl ?_
            refine AOps.gf 42 rfl rfl rfl rfl rfl ?_
            refine AOps.gf 43 rfl rfl rfl rfl rfl ?_
            refine AOps.st 44 rfl rfl rfl (op_pick rfl rfl rfl ?_)
            refine AOps.st 45 rfl rfl rfl (op_move rfl rfl ?_)
            refine AOps.gf 46 rfl rfl rfl rfl rfl ?_
            refine AOps.gf 47 rfl rfl rfl rfl rfl ?_
            refine AOps.gf 48 rfl rfl rfl rfl rfl ?_
            refine AOps.st 49 rfl rfl rfl (op_pick rfl rfl rfl ?_)
            refine AOps.st 0 rfl rfl rfl (op_assign rfl rfl ?_)
            refine AOps.nil ?_
            refine BoolQ.mk rfl ?_ (by repeat' (first | exact SLe.wo _ _ | exact SLe.refl _ | refine SLe.fresh rfl ?_)) (by first | exact MLe.none _ | exact MLe.refl _ | (repeat' (first | exact MLe.nil | exact MLe.refl _ | refine MLe.cons _ ?_ | refine MLe.drop _ ?_)))
            first | (simp_all; done) | exact absurd rfl g19
          · skip
            first | (refine AOps.gt 36 rfl rfl rfl rfl rfl (op_load_m (cs' := [_, _, _, _, _, _, _, _, _, _, _]) (i := 0) rfl ta_60 rfl rfl rfl rfl ?_)) | (refine AOps.gt 36 rfl rfl rfl rfl rfl (op_load_m (cs' := [_, _, _, _, _, _, _, _, _, _, _]) (i := 1) rfl ta_60 rfl rfl rfl rfl ?_))
            refine AOps.gt 37 rfl rfl rfl rfl rfl (op_callp (xs := [.tmp 36]) rfl rfl (HS) (by first | exact Les.refl _ | (repeat' (first | exact Les.refl _ | refine Les.cons ?_ ?_ | exact Le.refl _ | exact Le.own _ _ _ | exact Le.nil _ | refine Le.agg ?_))) ?_)
            refine AOps.gt 38 rfl rfl rfl rfl rfl (op_eql rfl rfl rfl ?_); intro c38 h38
            refine AOps.st 39 rfl rfl rfl (op_pick rfl rfl rfl ?_)
            refine AOps.st 40 rfl rfl rfl (op_move rfl rfl ?_)
            rcases bool_split h38 with ⟨rfl, g38⟩ | ⟨rfl, g38⟩
            · skip
              refine AOps.gf 41 rfl rfl rfl rfl rfl ?_
              refine AOps.gf 42 rfl rfl rfl rfl rfl ?_
              refine AOps.gf 43 rfl rfl rfl rfl rfl ?_
              refine AOps.st 44 rfl rfl rfl (op_pick rfl rfl rfl ?_)
              refine AOps.st 45 rfl rfl rfl (op_move rfl rfl ?_)
              refine AOps.gf 46 rfl rfl rfl rfl rfl ?_
              refine AOps.gf 47 rfl rfl rfl rfl rfl ?_
              refine AOps.gf 48 rfl rfl rfl rfl rfl ?_
              refine AOps.st 49 rfl rfl rfl (op_pick rfl rfl rfl ?_)
              refine AOps.st 0 rfl rfl rfl (op_assign rfl rfl ?_)
              refine AOps.nil ?_
              refine BoolQ.mk rfl ?_ (by repeat' (first | exact SLe.wo _ _ | exact SLe.refl _ | refine SLe.fresh rfl ?_)) (by first | exact MLe.none _ | exact MLe.refl _ | (repeat' (first | exact MLe.nil | exact MLe.refl _ | refine MLe.cons _ ?_ | refine MLe.drop _ ?_)))
              first | (simp_all; done) | exact absurd rfl g19
            · skip
              first | (refine AOps.gt 41 rfl rfl rfl rfl rfl (op_load_m (cs' := [_, _, _, _, _, _, _, _, _, _, _]) (i := 0) rfl ta_60 rfl rfl rfl rfl ?_)) | (refine AOps.gt 41 rfl rfl rfl rfl rfl (op_load_m (cs' := [_, _, _, _, _, _, _, _, _, _, _]) (i := 1) rfl ta_60 rfl rfl rfl rfl ?_))
              refine AOps.gt 42 rfl rfl rfl rfl rfl (op_callp (xs := [.tmp 41]) rfl rfl (HD) (by first | exact Les.refl _ | (repeat' (first | exact Les.refl _ | refine Les.cons ?_ ?_ | exact Le.refl _ | exact Le.own _ _ _ | exact Le.nil _ | refine Le.agg ?_))) ?_)
              refine AOps.gt 43 rfl rfl rfl rfl rfl (op_eql rfl rfl rfl ?_); intro c43 h43
              refine AOps.st 44 rfl rfl rfl (op_pick rfl rfl rfl ?_)
              refine AOps.st 45 rfl rfl rfl (op_move rfl rfl ?_)
              rcases bool_split h43 with ⟨rfl, g43⟩ | ⟨rfl, g43⟩
              · skip
                refine AOps.gf 46 rfl rfl rfl rfl rfl ?_
                refine AOps.gf 47 rfl rfl rfl rfl rfl ?_
                refine AOps.gf 48 rfl rfl rfl rfl rfl ?_
                refine AOps.st 49 rfl rfl rfl (op_pick rfl rfl rfl ?_)
                refine AOps.st 0 rfl rfl rfl (op_assign rfl rfl ?_)
                refine AOps.nil ?_
                refine BoolQ.mk rfl ?_ (by repeat' (first | exact SLe.wo _ _ | exact SLe.refl _ | refine SLe.fresh rfl ?_)) (by first | exact MLe.none _ | exact MLe.refl _ | (repeat' (first | exact MLe.nil | exact MLe.refl _ | refine MLe.cons _ ?_ | refine MLe.drop _ ?_)))
                first | (simp_all; done) | exact absurd rfl g19
              · skip
                first | (refine AOps.gt 46 rfl rfl rfl rfl rfl (op_load_m (cs' := [_, _, _, _, _, _, _, _, _, _, _]) (i := 0) rfl ta_60 rfl rfl rfl rfl ?_)) | (refine AOps.gt 46 rfl rfl rfl rfl rfl (op_load_m (cs' := [_, _, _, _, _, _, _, _, _, _, _]) (i := 1) rfl ta_60 rfl rfl rfl rfl ?_))
                first | (refine AOps.gt 47 rfl rfl rfl rfl rfl (op_load_m (cs' := [_, _, _, _, _, _, _, _, _, _, _]) (i := 0) rfl ta_60 rfl rfl rfl rfl ?_)) | (refine AOps.gt 47 rfl rfl rfl rfl rfl (op_load_m (cs' := [_, _, _, _, _, _, _, _, _, _, _]) (i := 1) rfl ta_60 rfl rfl rfl rfl ?_))
                refine AOps.gt 48 rfl rfl rfl rfl rfl (op_callb (xs := [.tmp 46, .tmp 47]) rfl rfl (HM) (by first | exact Les.refl _ | (repeat' (first | exact Les.refl _ | refine Les.cons ?_ ?_ | exact Le.refl _ | exact Le.own _ _ _ | exact Le.nil _ | refine Le.agg ?_))) ?_); intro c48 h48
                refine AOps.st 49 rfl rfl rfl (op_pick rfl rfl rfl ?_)
                refine AOps.st 0 rfl rfl rfl (op_assign rfl rfl ?_)
                refine AOps.nil ?_
                refine BoolQ.mk rfl ?_ (by repeat' (first | exact SLe.wo _ _ | exact SLe.refl _ | refine SLe.fresh rfl ?_)) (by first | exact MLe.none _ | exact MLe.refl _ | (repeat' (first | exact MLe.nil | exact MLe.refl _ | refine MLe.cons _ ?_ | refine MLe.drop _ ?_)))
                first | (simp_all; done) | exact absurd rfl g19
  intro c0 h0
  refine go_code ?_
  refine c_ret ?_
  exact out_tmp rfl rfl (Le.refl _) (by first | exact MLe.none _ | exact MLe.refl _ | (repeat' (first | exact MLe.nil | exact MLe.refl _ | refine MLe.cons _ ?_ | refine MLe.drop _ ?_))) ⟨by rw [h0.2 trivial], rfl⟩
end Go.Proofs.Ytjgjnheeohfmmaa
