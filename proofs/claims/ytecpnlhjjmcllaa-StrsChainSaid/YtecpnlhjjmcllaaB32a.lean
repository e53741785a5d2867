/- cognatelaw32: awake. -/
import Derived.Test.YtecpnlhjjmcllaaP32c
namespace Go.Proofs.Ytecpnlhjjmcllaa
open Go.RowKit
theorem hT0 : hT [] = [] := rfl
abbrev s9 : ByteArray := ⟨#[97, 98, 99, 100, 101, 102, 103, 104, 105]⟩
set_option maxHeartbeats 4000000 in
set_option maxRecDepth 100000 in
theorem awake32_c : PCall Try.prog 26 [] (.val (.bool true)) := by
  have hG := hT_get (ss := [s9]) (k := 0) rfl (by decide)
  have hg : getR (hT [s9]) (2 * ((adr (hT [s9]) 0 : Nat) : Int)) = .tup [.val (.string s9), .val (.bool true)] := by rw [getR_eq, hG]; rfl
  have ha : adr (hT [s9]) 0 = 1 := rfl
  have hu : used (hT [s9]) = 4 := by
    have := hT_used [] s9
    rw [List.nil_append, hT0, used_nil] at this
    rw [this]; rfl
  have hN := Need_c 9 (by omega) (by omega)
  rw [show need 9 = 4 from rfl] at hN
  have hok := hT_ok (ss := [s9]) (by simp; decide)
  have hfit : (used (hT []) : Int) + ((s9.size + 7) / 8 + 2 : Nat) ≤ 20 := by decide
  refine ACall.enter Try.func26 rfl (by kernel_rfl) rfl (Nat.le_of_ble_eq_true rfl) ?_
  refine c_start ?_
  refine c_seq ?_
  refine c_region ?_
  refine AOps.st 0 rfl rfl rfl (op_assign rfl rfl ?_)
  refine AOps.nil ?_
  refine go_code ?_
  refine c_seq ?_
  refine c_region ?_
  refine AOps.st 8 rfl rfl rfl (op_callat [] (xs := [.const (.int .i64 20)]) rfl rfl rfl (New_y 20 (by omega) (by omega)) (by first | exact Les.refl _ | (repeat' (first | exact Les.refl _ | refine Les.cons ?_ ?_ | exact Le.refl _ | exact Le.own _ _ _ | exact Le.nil _ | refine Le.agg ?_))) ?_)
  rintro v1 M1 ⟨b, rfl, hM⟩
  obtain ⟨r0, r1, r2, rfl⟩ := hM.three
  have hP := Put_t b 20 [] _ hM (by omega) (by omega) s9 (by decide) hfit
  refine AOps.st 7 rfl rfl rfl (op_move rfl rfl ?_)
  refine AOps.st 9 rfl rfl rfl (op_extract rfl rfl rfl ?_)
  refine AOps.st 10 rfl rfl rfl (op_extract rfl rfl rfl ?_)
  refine AOps.st 1 rfl rfl rfl (op_assign rfl rfl ?_)
  refine AOps.st 2 rfl rfl rfl (op_assign rfl rfl ?_)
  refine AOps.nil ?_
  refine go_code ?_
  refine c_seq ?_
  refine c_region ?_
  refine AOps.st 12 rfl rfl rfl (op_move rfl rfl ?_)
  refine AOps.st 13 rfl rfl rfl (op_callat [0,0,0] (xs := [.tmp 12, .const (.string ⟨#[97, 98, 99, 100, 101, 102, 103, 104, 105]⟩)])  rfl rfl rfl hP (by first | exact Les.refl _ | (repeat' (first | exact Les.refl _ | refine Les.cons ?_ ?_ | exact Le.refl _ | exact Le.own _ _ _ | exact Le.nil _ | refine Le.agg ?_))) ?_)
  rintro v2 M2 ⟨rfl, hM2⟩
  obtain ⟨q0, q1, q2, rfl⟩ := hM2.three
  have hGet := Get_c b 20 _ _ hM2 (by omega) hok (by rw [List.nil_append, hu]; omega) (2 * ((adr (hT [s9]) 0 : Nat) : Int)) (by omega) (by rw [ha]; omega)
  have hUs := Used_c b 20 _ _ hM2 (by omega) (by rw [List.nil_append, hu]; omega)
  rw [List.nil_append, hg] at hGet
  rw [List.nil_append, hu] at hUs
  refine AOps.st 11 rfl rfl rfl (op_move rfl rfl ?_)
  refine AOps.st 14 rfl rfl rfl (op_extract rfl rfl rfl ?_)
  refine AOps.st 15 rfl rfl rfl (op_extract rfl rfl rfl ?_)
  refine AOps.st 3 rfl rfl rfl (op_assign rfl rfl ?_)
  refine AOps.st 4 rfl rfl rfl (op_assign rfl rfl ?_)
  refine AOps.nil ?_
  refine go_code ?_
  refine c_seq ?_
  refine c_region ?_
  refine AOps.st 17 rfl rfl rfl (op_move rfl rfl ?_)
  refine AOps.st 18 rfl rfl rfl (op_move rfl rfl ?_)
  refine AOps.st 19 rfl rfl rfl (op_callk (xs := [.tmp 17, .tmp 18]) [0,0,0] rfl rfl rfl (hGet) (by first | exact Les.refl _ | (repeat' (first | exact Les.refl _ | refine Les.cons ?_ ?_ | exact Le.refl _ | exact Le.own _ _ _ | exact Le.nil _ | refine Le.agg ?_))) ?_)
  refine AOps.st 16 rfl rfl rfl (op_move rfl rfl ?_)
  refine AOps.st 20 rfl rfl rfl (op_extract rfl rfl rfl ?_)
  refine AOps.st 21 rfl rfl rfl (op_extract rfl rfl rfl ?_)
  refine AOps.st 5 rfl rfl rfl (op_assign rfl rfl ?_)
  refine AOps.st 6 rfl rfl rfl (op_assign rfl rfl ?_)
  refine AOps.nil ?_
  refine go_code ?_
  refine c_seq ?_
  refine c_bool 0 (True) ?_ _ _ rfl ?_
  · skip
    refine AOps.st 22 rfl rfl rfl (op_callp (xs := [.const (.int .i64 9)]) rfl rfl (hN) (by first | exact Les.refl _ | (repeat' (first | exact Les.refl _ | refine Les.cons ?_ ?_ | exact Le.refl _ | exact Le.own _ _ _ | exact Le.nil _ | refine Le.agg ?_))) ?_)
    refine AOps.st 23 rfl rfl rfl (op_eql rfl rfl rfl ?_); intro c23 h23
    refine AOps.st 24 rfl rfl rfl (op_move rfl rfl ?_)
    rcases bool_split h23 with ⟨rfl, g23⟩ | ⟨rfl, g23⟩
    · exact absurd rfl g23
    · skip
      refine AOps.gt 25 rfl rfl rfl rfl rfl (op_move rfl rfl ?_)
      refine AOps.st 26 rfl rfl rfl (op_pick rfl rfl rfl ?_)
      refine AOps.st 27 rfl rfl rfl (op_move rfl rfl ?_)
      refine AOps.gt 28 rfl rfl rfl rfl rfl (op_move rfl rfl ?_)
      refine AOps.st 29 rfl rfl rfl (op_pick rfl rfl rfl ?_)
      refine AOps.st 30 rfl rfl rfl (op_move rfl rfl ?_)
      refine AOps.gt 31 rfl rfl rfl rfl rfl (op_move rfl rfl ?_)
      refine AOps.gt 32 rfl rfl rfl rfl rfl (op_seql rfl rfl rfl ?_); intro c32 h32
      refine AOps.st 33 rfl rfl rfl (op_pick rfl rfl rfl ?_)
      refine AOps.st 34 rfl rfl rfl (op_move rfl rfl ?_)
      rcases bool_split h32 with ⟨rfl, g32⟩ | ⟨rfl, g32⟩
      · skip
        refine AOps.gf 35 rfl rfl rfl rfl rfl ?_
        refine AOps.gf 36 rfl rfl rfl rfl rfl ?_
        refine AOps.gf 37 rfl rfl rfl rfl rfl ?_
        refine AOps.st 38 rfl rfl rfl (op_pick rfl rfl rfl ?_)
        refine AOps.st 0 rfl rfl rfl (op_assign rfl rfl ?_)
        refine AOps.nil ?_
        refine BoolQ.mk rfl ?_ (by repeat' (first | exact SLe.wo _ _ | exact SLe.refl _ | refine SLe.fresh rfl ?_)) (by first | exact MLe.none _ | exact MLe.refl _ | (repeat' (first | exact MLe.nil | exact MLe.refl _ | refine MLe.cons _ ?_ | refine MLe.drop _ ?_)))
        first | (simp_all; done) | (simp_all; omega)
      · skip
        refine AOps.gt 35 rfl rfl rfl rfl rfl (op_move rfl rfl ?_)
        refine AOps.gt 36 rfl rfl rfl rfl rfl (op_callk (xs := [.tmp 35]) [0,0,0] rfl rfl rfl (hUs) (by first | exact Les.refl _ | (repeat' (first | exact Les.refl _ | refine Les.cons ?_ ?_ | exact Le.refl _ | exact Le.own _ _ _ | exact Le.nil _ | refine Le.agg ?_))) ?_)
        refine AOps.gt 37 rfl rfl rfl rfl rfl (op_eql rfl rfl rfl ?_); intro c37 h37
        refine AOps.st 38 rfl rfl rfl (op_pick rfl rfl rfl ?_)
        refine AOps.st 0 rfl rfl rfl (op_assign rfl rfl ?_)
        refine AOps.nil ?_
        refine BoolQ.mk rfl ?_ (by repeat' (first | exact SLe.wo _ _ | exact SLe.refl _ | refine SLe.fresh rfl ?_)) (by first | exact MLe.none _ | exact MLe.refl _ | (repeat' (first | exact MLe.nil | exact MLe.refl _ | refine MLe.cons _ ?_ | refine MLe.drop _ ?_)))
        first | (simp_all; done) | (simp_all; omega)
  intro c0 h0
  refine go_code ?_
  refine c_ret ?_
  exact out_tmp rfl rfl (Le.beq (h0.2 trivial)) (by first | exact MLe.none _ | exact MLe.refl _ | (repeat' (first | exact MLe.nil | exact MLe.refl _ | refine MLe.cons _ ?_ | refine MLe.drop _ ?_))) ⟨rfl, rfl⟩
end Go.Proofs.Ytecpnlhjjmcllaa
