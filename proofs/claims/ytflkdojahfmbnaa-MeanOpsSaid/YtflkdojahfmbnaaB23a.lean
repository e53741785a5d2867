/- The machine's smaller functions: constant, of, step, shaped, wrap, a text's code. -/
import Derived.Test.YtflkdojahfmbnaaB23n
import Derived.Test.YtflkdojahfmbnaaAL28
import Derived.Test.YtflkdojahfmbnaaAL29
import Derived.Test.YtflkdojahfmbnaaAL20
import Derived.Test.YtflkdojahfmbnaaAL26
import Derived.Test.YtflkdojahfmbnaaAY
import Derived.Test.YtflkdojahfmbnaaB05s
namespace Go.Proofs.Ytflkdojahfmbnaa
open Go.RowKit
/-- a value: its kind and its text -/
def vlC (k : Int) (s : ByteArray) : List AV := [.val (.int .i64 k), .val (.int .i64 0), .val (.string s), .val (.slice none 0 0), .val (.pointer none), .val (.pointer none)]
/-- the machine -/
def mcC (o i u : AV) (fuel steps nest : Int) : List AV := [o, i, u, .val (.int .i64 fuel), .val (.int .i64 steps), .val (.int .i64 nest)]
theorem Le.cloF (f : FuncId) : Le (.val (.func (.func f) #[] #[])) (.clo (.func f) [] []) := fun F u h => by cases h; exact .clo _ .nil .nil
set_option maxHeartbeats 4000000 in
set_option maxRecDepth 100000 in
theorem constant_c (s : ByteArray) : PCall Try.prog 57 [.val (.string s)] (.agg (vlC 2 s)) := by
  unfold vlC
  refine ACall.enter Try.func57 rfl (by kernel_rfl) rfl (Nat.le_of_ble_eq_true rfl) ?_
  refine c_start ?_
  refine c_seq ?_
  refine c_region ?_
  refine AOps.st 2 rfl rfl rfl (op_alloce (cs' := [_, _, _, _, _, _]) rfl tz_69 rfl rfl ?_); intro b2
  refine AOps.nil ?_
  refine go_code ?_
  refine c_seq ?_
  refine c_region ?_
  refine AOps.st 3 rfl rfl rfl (op_move rfl rfl ?_)
  refine AOps.st 4 rfl rfl rfl (op_build (ns := [0, 2]) (xs := [.const (.int .i64 2), .tmp 3]) rfl tz_69 rfl tfl_69 rfl rfl rfl rfl ?_)
  first | (refine AOps.st0 rfl rfl (op_store (cs' := [_, _, _, _, _, _]) (i := 0) rfl ts_69 rfl rfl rfl rfl rfl (Nat.le_of_ble_eq_true rfl) rfl ?_)) | (refine AOps.st0 rfl rfl (op_store (cs' := [_, _, _, _, _, _]) (i := 1) rfl ts_69 rfl rfl rfl rfl rfl (Nat.le_of_ble_eq_true rfl) rfl ?_)) | (refine AOps.st0 rfl rfl (op_store (cs' := [_, _, _, _, _, _]) (i := 2) rfl ts_69 rfl rfl rfl rfl rfl (Nat.le_of_ble_eq_true rfl) rfl ?_)) | (refine AOps.st0 rfl rfl (op_store (cs' := [_, _, _, _, _, _]) (i := 3) rfl ts_69 rfl rfl rfl rfl rfl (Nat.le_of_ble_eq_true rfl) rfl ?_)) | (refine AOps.st0 rfl rfl (op_store (cs' := [_, _, _, _, _, _]) (i := 4) rfl ts_69 rfl rfl rfl rfl rfl (Nat.le_of_ble_eq_true rfl) rfl ?_)) | (refine AOps.st0 rfl rfl (op_store (cs' := [_, _, _, _, _, _]) (i := 5) rfl ts_69 rfl rfl rfl rfl rfl (Nat.le_of_ble_eq_true rfl) rfl ?_)) | (refine AOps.st0 rfl rfl (op_store (cs' := [_, _, _, _, _, _]) (i := 6) rfl ts_69 rfl rfl rfl rfl rfl (Nat.le_of_ble_eq_true rfl) rfl ?_)) | (refine AOps.st0 rfl rfl (op_store (cs' := [_, _, _, _, _, _]) (i := 7) rfl ts_69 rfl rfl rfl rfl rfl (Nat.le_of_ble_eq_true rfl) rfl ?_)) | (refine AOps.st0 rfl rfl (op_store (cs' := [_, _, _, _, _, _]) (i := 8) rfl ts_69 rfl rfl rfl rfl rfl (Nat.le_of_ble_eq_true rfl) rfl ?_)) | (refine AOps.st0 rfl rfl (op_store (cs' := [_, _, _, _, _, _]) (i := 9) rfl ts_69 rfl rfl rfl rfl rfl (Nat.le_of_ble_eq_true rfl) rfl ?_))
  refine AOps.nil ?_
  refine go_code ?_
  refine c_ret ?_
  exact out_cell (i := 0) rfl rfl rfl ta_69 rfl (Le.refl _) (by first | exact MLe.none _ | exact MLe.refl _ | (repeat' (first | exact MLe.nil | exact MLe.refl _ | refine MLe.cons _ ?_ | refine MLe.drop _ ?_))) ⟨rfl, rfl⟩
set_option maxHeartbeats 4000000 in
set_option maxRecDepth 100000 in
theorem ofd_c (s : ByteArray) : PCall Try.prog 59 [.agg (vlC 1 s), .val (.int .i64 1)] (.val (.bool true)) := by
  unfold vlC
  refine ACall.enter Try.func59 rfl (by kernel_rfl) rfl (Nat.le_of_ble_eq_true rfl) ?_
  refine c_start ?_
  refine c_seq ?_
  refine c_region ?_
  refine AOps.st 2 rfl rfl rfl (op_boxc (cs' := [_, _, _, _, _, _]) rfl rfl rfl rfl ?_)
  refine AOps.st 4 rfl rfl rfl (op_assign rfl rfl ?_)
  refine AOps.nil ?_
  refine go_code ?_
  refine c_seq ?_
  refine c_region ?_
  refine AOps.st 5 rfl rfl rfl (op_fieldAddr_c rfl tf_69_0 rfl rfl ?_)
  refine AOps.st 6 rfl rfl rfl (op_load_c1 rfl ta_3 rfl rfl ?_)
  refine AOps.st 7 rfl rfl rfl (op_move rfl rfl ?_)
  refine AOps.st 8 rfl rfl rfl (op_eql rfl rfl rfl ?_); intro c8 h8
  refine AOps.st 4 rfl rfl rfl (op_assign rfl rfl ?_)
  refine AOps.nil ?_
  refine go_code ?_
  refine c_ret ?_
  exact out_tmp rfl rfl (Le.refl _) (by first | exact MLe.none _ | exact MLe.refl _ | (repeat' (first | exact MLe.nil | exact MLe.refl _ | refine MLe.cons _ ?_ | refine MLe.drop _ ?_))) ⟨by simp_all, rfl⟩
set_option maxHeartbeats 4000000 in
set_option maxRecDepth 100000 in
theorem step_c (b : Nat) (o i u : AV) (fuel steps nest : Int) (h1 : steps < fuel) (h2 : nest < 5000) (h3 : fuel ≤ 100) (h4 : 0 ≤ steps) : MCall Try.prog 45 [.ptr b 0] (.loc b (mcC o i u fuel steps nest)) (.tup []) (.loc b (mcC o i u fuel (steps + 1) nest)) := by
  unfold mcC
  refine ACall.enter Try.func45 rfl (by kernel_rfl) rfl (Nat.le_of_ble_eq_true rfl) ?_
  refine c_start ?_
  refine c_seq ?_
  refine c_seq ?_
  refine c_drawn tmix rfl ?_
  refine DOps.st 2 rfl rfl (op_move rfl rfl ⟨rfl, rfl⟩) ?_
  first | (refine DOps.st 3 rfl rfl (op_nilCheck_m rfl rfl ⟨rfl, rfl⟩) ?_) | (refine DOps.st 3 rfl rfl (op_nilCheck_c rfl rfl ⟨rfl, rfl⟩) ?_) | (refine DOps.st 3 rfl rfl (op_nilCheck_f rfl rfl ⟨rfl, rfl⟩) ?_)
  first | (refine DOps.st 4 rfl rfl (op_fieldAddr_m rfl tf_57_4 rfl ⟨rfl, rfl⟩) ?_) | (refine DOps.st 4 rfl rfl (op_fieldAddr_c rfl tf_57_4 rfl rfl ⟨rfl, rfl⟩) ?_)
  first | (refine DOps.st 5 rfl rfl (op_load_m1 (i := 0) rfl ta_3 rfl rfl rfl ⟨rfl, rfl⟩) ?_) | (refine DOps.st 5 rfl rfl (op_load_m1 (i := 1) rfl ta_3 rfl rfl rfl ⟨rfl, rfl⟩) ?_) | (refine DOps.st 5 rfl rfl (op_load_m1 (i := 2) rfl ta_3 rfl rfl rfl ⟨rfl, rfl⟩) ?_) | (refine DOps.st 5 rfl rfl (op_load_m1 (i := 3) rfl ta_3 rfl rfl rfl ⟨rfl, rfl⟩) ?_) | (refine DOps.st 5 rfl rfl (op_load_m1 (i := 4) rfl ta_3 rfl rfl rfl ⟨rfl, rfl⟩) ?_) | (refine DOps.st 5 rfl rfl (op_load_m1 (i := 5) rfl ta_3 rfl rfl rfl ⟨rfl, rfl⟩) ?_) | (refine DOps.st 5 rfl rfl (op_load_m1 (i := 6) rfl ta_3 rfl rfl rfl ⟨rfl, rfl⟩) ?_) | (refine DOps.st 5 rfl rfl (op_load_m1 (i := 7) rfl ta_3 rfl rfl rfl ⟨rfl, rfl⟩) ?_) | (refine DOps.st 5 rfl rfl (op_load_m1 (i := 8) rfl ta_3 rfl rfl rfl ⟨rfl, rfl⟩) ?_) | (refine DOps.st 5 rfl rfl (op_load_m1 (i := 9) rfl ta_3 rfl rfl rfl ⟨rfl, rfl⟩) ?_) | (refine DOps.st 5 rfl rfl (op_load_c1 rfl ta_3 rfl rfl ⟨rfl, rfl⟩) ?_)
  refine DOps.st 6 rfl rfl (op_move rfl rfl ⟨rfl, rfl⟩) ?_
  first | (refine DOps.st 7 rfl rfl (op_nilCheck_m rfl rfl ⟨rfl, rfl⟩) ?_) | (refine DOps.st 7 rfl rfl (op_nilCheck_c rfl rfl ⟨rfl, rfl⟩) ?_) | (refine DOps.st 7 rfl rfl (op_nilCheck_f rfl rfl ⟨rfl, rfl⟩) ?_)
  first | (refine DOps.st 8 rfl rfl (op_fieldAddr_m rfl tf_57_3 rfl ⟨rfl, rfl⟩) ?_) | (refine DOps.st 8 rfl rfl (op_fieldAddr_c rfl tf_57_3 rfl rfl ⟨rfl, rfl⟩) ?_)
  first | (refine DOps.st 9 rfl rfl (op_load_m1 (i := 0) rfl ta_3 rfl rfl rfl ⟨rfl, rfl⟩) ?_) | (refine DOps.st 9 rfl rfl (op_load_m1 (i := 1) rfl ta_3 rfl rfl rfl ⟨rfl, rfl⟩) ?_) | (refine DOps.st 9 rfl rfl (op_load_m1 (i := 2) rfl ta_3 rfl rfl rfl ⟨rfl, rfl⟩) ?_) | (refine DOps.st 9 rfl rfl (op_load_m1 (i := 3) rfl ta_3 rfl rfl rfl ⟨rfl, rfl⟩) ?_) | (refine DOps.st 9 rfl rfl (op_load_m1 (i := 4) rfl ta_3 rfl rfl rfl ⟨rfl, rfl⟩) ?_) | (refine DOps.st 9 rfl rfl (op_load_m1 (i := 5) rfl ta_3 rfl rfl rfl ⟨rfl, rfl⟩) ?_) | (refine DOps.st 9 rfl rfl (op_load_m1 (i := 6) rfl ta_3 rfl rfl rfl ⟨rfl, rfl⟩) ?_) | (refine DOps.st 9 rfl rfl (op_load_m1 (i := 7) rfl ta_3 rfl rfl rfl ⟨rfl, rfl⟩) ?_) | (refine DOps.st 9 rfl rfl (op_load_m1 (i := 8) rfl ta_3 rfl rfl rfl ⟨rfl, rfl⟩) ?_) | (refine DOps.st 9 rfl rfl (op_load_m1 (i := 9) rfl ta_3 rfl rfl rfl ⟨rfl, rfl⟩) ?_) | (refine DOps.st 9 rfl rfl (op_load_c1 rfl ta_3 rfl rfl ⟨rfl, rfl⟩) ?_)
  refine DOps.cm 10 rfl rfl (fun _ q => op_geq rfl rfl rfl q) ?_; intro c10 h10
  show AGo _ _ _ _ _ _ _
  refine go_code ?_
  rcases bool_split h10 with ⟨rfl, g10⟩ | ⟨rfl, g10⟩
  · refine c_cond_f rfl ?_
    refine c_skip ?_
    refine go_code ?_
    refine c_seq ?_
    refine c_seq ?_
    refine c_region ?_
    refine AOps.st 12 rfl rfl rfl (op_move rfl rfl ?_)
    first | (refine AOps.st 13 rfl rfl rfl (op_nilCheck_m rfl rfl ?_)) | (refine AOps.st 13 rfl rfl rfl (op_nilCheck_c rfl rfl ?_)) | (refine AOps.st 13 rfl rfl rfl (op_nilCheck_f rfl rfl ?_))
    first | (refine AOps.st 14 rfl rfl rfl (op_fieldAddr_m rfl tf_57_5 rfl ?_)) | (refine AOps.st 14 rfl rfl rfl (op_fieldAddr_c rfl tf_57_5 rfl rfl ?_))
    first | (refine AOps.st 15 rfl rfl rfl (op_load_m1 (i := 0) rfl ta_3 rfl rfl rfl ?_)) | (refine AOps.st 15 rfl rfl rfl (op_load_m1 (i := 1) rfl ta_3 rfl rfl rfl ?_)) | (refine AOps.st 15 rfl rfl rfl (op_load_m1 (i := 2) rfl ta_3 rfl rfl rfl ?_)) | (refine AOps.st 15 rfl rfl rfl (op_load_m1 (i := 3) rfl ta_3 rfl rfl rfl ?_)) | (refine AOps.st 15 rfl rfl rfl (op_load_m1 (i := 4) rfl ta_3 rfl rfl rfl ?_)) | (refine AOps.st 15 rfl rfl rfl (op_load_m1 (i := 5) rfl ta_3 rfl rfl rfl ?_)) | (refine AOps.st 15 rfl rfl rfl (op_load_m1 (i := 6) rfl ta_3 rfl rfl rfl ?_)) | (refine AOps.st 15 rfl rfl rfl (op_load_m1 (i := 7) rfl ta_3 rfl rfl rfl ?_)) | (refine AOps.st 15 rfl rfl rfl (op_load_m1 (i := 8) rfl ta_3 rfl rfl rfl ?_)) | (refine AOps.st 15 rfl rfl rfl (op_load_m1 (i := 9) rfl ta_3 rfl rfl rfl ?_)) | (refine AOps.st 15 rfl rfl rfl (op_load_c1 rfl ta_3 rfl rfl ?_))
    refine AOps.st 16 rfl rfl rfl (op_geq rfl rfl rfl ?_); intro c16 h16
    refine AOps.nil ?_
    refine go_code ?_
    rcases bool_split h16 with ⟨rfl, g16⟩ | ⟨rfl, g16⟩
    · refine c_cond_f rfl ?_
      refine c_skip ?_
      refine go_code ?_
      refine c_region ?_
      refine AOps.st 18 rfl rfl rfl (op_move rfl rfl ?_)
      first | (refine AOps.st 19 rfl rfl rfl (op_nilCheck_m rfl rfl ?_)) | (refine AOps.st 19 rfl rfl rfl (op_nilCheck_c rfl rfl ?_)) | (refine AOps.st 19 rfl rfl rfl (op_nilCheck_f rfl rfl ?_))
      first | (refine AOps.st 20 rfl rfl rfl (op_fieldAddr_m rfl tf_57_4 rfl ?_)) | (refine AOps.st 20 rfl rfl rfl (op_fieldAddr_c rfl tf_57_4 rfl rfl ?_))
      first | (refine AOps.st 21 rfl rfl rfl (op_load_m1 (i := 0) rfl ta_3 rfl rfl rfl ?_)) | (refine AOps.st 21 rfl rfl rfl (op_load_m1 (i := 1) rfl ta_3 rfl rfl rfl ?_)) | (refine AOps.st 21 rfl rfl rfl (op_load_m1 (i := 2) rfl ta_3 rfl rfl rfl ?_)) | (refine AOps.st 21 rfl rfl rfl (op_load_m1 (i := 3) rfl ta_3 rfl rfl rfl ?_)) | (refine AOps.st 21 rfl rfl rfl (op_load_m1 (i := 4) rfl ta_3 rfl rfl rfl ?_)) | (refine AOps.st 21 rfl rfl rfl (op_load_m1 (i := 5) rfl ta_3 rfl rfl rfl ?_)) | (refine AOps.st 21 rfl rfl rfl (op_load_m1 (i := 6) rfl ta_3 rfl rfl rfl ?_)) | (refine AOps.st 21 rfl rfl rfl (op_load_m1 (i := 7) rfl ta_3 rfl rfl rfl ?_)) | (refine AOps.st 21 rfl rfl rfl (op_load_m1 (i := 8) rfl ta_3 rfl rfl rfl ?_)) | (refine AOps.st 21 rfl rfl rfl (op_load_m1 (i := 9) rfl ta_3 rfl rfl rfl ?_)) | (refine AOps.st 21 rfl rfl rfl (op_load_c1 rfl ta_3 rfl rfl ?_))
      first | (refine AOps.st 22 rfl rfl rfl (op_add rfl rfl rfl (IntWalk.i64_in _ (by omega)) ?_)) | (refine AOps.st 22 rfl rfl rfl (op_add rfl rfl rfl rfl ?_))
      first | (refine AOps.st 23 rfl rfl rfl (op_nilCheck_m rfl rfl ?_)) | (refine AOps.st 23 rfl rfl rfl (op_nilCheck_c rfl rfl ?_)) | (refine AOps.st 23 rfl rfl rfl (op_nilCheck_f rfl rfl ?_))
      first | (refine AOps.st 24 rfl rfl rfl (op_fieldAddr_m rfl tf_57_4 rfl ?_)) | (refine AOps.st 24 rfl rfl rfl (op_fieldAddr_c rfl tf_57_4 rfl rfl ?_))
      first | (refine AOps.st0 rfl rfl (op_store (i := 0) rfl ts_3 rfl rfl rfl rfl rfl (Nat.le_of_ble_eq_true rfl) rfl ?_)) | (refine AOps.st0 rfl rfl (op_store (i := 1) rfl ts_3 rfl rfl rfl rfl rfl (Nat.le_of_ble_eq_true rfl) rfl ?_)) | (refine AOps.st0 rfl rfl (op_store (i := 2) rfl ts_3 rfl rfl rfl rfl rfl (Nat.le_of_ble_eq_true rfl) rfl ?_)) | (refine AOps.st0 rfl rfl (op_store (i := 3) rfl ts_3 rfl rfl rfl rfl rfl (Nat.le_of_ble_eq_true rfl) rfl ?_)) | (refine AOps.st0 rfl rfl (op_store (i := 4) rfl ts_3 rfl rfl rfl rfl rfl (Nat.le_of_ble_eq_true rfl) rfl ?_)) | (refine AOps.st0 rfl rfl (op_store (i := 5) rfl ts_3 rfl rfl rfl rfl rfl (Nat.le_of_ble_eq_true rfl) rfl ?_)) | (refine AOps.st0 rfl rfl (op_store (i := 6) rfl ts_3 rfl rfl rfl rfl rfl (Nat.le_of_ble_eq_true rfl) rfl ?_)) | (refine AOps.st0 rfl rfl (op_store (i := 7) rfl ts_3 rfl rfl rfl rfl rfl (Nat.le_of_ble_eq_true rfl) rfl ?_)) | (refine AOps.st0 rfl rfl (op_store (i := 8) rfl ts_3 rfl rfl rfl rfl rfl (Nat.le_of_ble_eq_true rfl) rfl ?_)) | (refine AOps.st0 rfl rfl (op_store (i := 9) rfl ts_3 rfl rfl rfl rfl rfl (Nat.le_of_ble_eq_true rfl) rfl ?_))
      refine AOps.nil ?_
      refine go_end ?_
      exact out_none rfl (by first | exact MLe.none _ | exact MLe.refl _ | (repeat' (first | exact MLe.nil | exact MLe.refl _ | refine MLe.cons _ ?_ | refine MLe.drop _ ?_))) ⟨rfl, rfl⟩
    · omega
  · omega
set_option maxHeartbeats 4000000 in
set_option maxRecDepth 100000 in
theorem strC_c (a b : AV) (s : ByteArray) : PCall Try.prog 32 [a, b, .cptr (vlC 1 s)] (.agg (vlC 1 s)) := by
  unfold vlC
  refine ACall.enter Try.func32 rfl (by kernel_rfl) rfl (Nat.le_of_ble_eq_true rfl) ?_
  refine c_start ?_
  refine c_seq ?_
  refine c_region ?_
  refine AOps.st 5 rfl rfl rfl (op_alloce (cs' := [_, _, _, _, _, _]) rfl tz_69 rfl rfl ?_); intro b5
  refine AOps.nil ?_
  refine go_code ?_
  refine c_seq ?_
  refine c_region ?_
  first | (refine AOps.st 6 rfl rfl rfl (op_load_m (cs' := [_, _, _, _, _, _]) (i := 0) rfl ta_69 rfl rfl rfl rfl ?_)) | (refine AOps.st 6 rfl rfl rfl (op_load_m (cs' := [_, _, _, _, _, _]) (i := 1) rfl ta_69 rfl rfl rfl rfl ?_)) | (refine AOps.st 6 rfl rfl rfl (op_load_m (cs' := [_, _, _, _, _, _]) (i := 2) rfl ta_69 rfl rfl rfl rfl ?_)) | (refine AOps.st 6 rfl rfl rfl (op_load_m (cs' := [_, _, _, _, _, _]) (i := 3) rfl ta_69 rfl rfl rfl rfl ?_)) | (refine AOps.st 6 rfl rfl rfl (op_load_m (cs' := [_, _, _, _, _, _]) (i := 4) rfl ta_69 rfl rfl rfl rfl ?_)) | (refine AOps.st 6 rfl rfl rfl (op_load_m (cs' := [_, _, _, _, _, _]) (i := 5) rfl ta_69 rfl rfl rfl rfl ?_)) | (refine AOps.st 6 rfl rfl rfl (op_load_m (cs' := [_, _, _, _, _, _]) (i := 6) rfl ta_69 rfl rfl rfl rfl ?_)) | (refine AOps.st 6 rfl rfl rfl (op_load_m (cs' := [_, _, _, _, _, _]) (i := 7) rfl ta_69 rfl rfl rfl rfl ?_)) | (refine AOps.st 6 rfl rfl rfl (op_load_m (cs' := [_, _, _, _, _, _]) (i := 8) rfl ta_69 rfl rfl rfl rfl ?_)) | (refine AOps.st 6 rfl rfl rfl (op_load_m (cs' := [_, _, _, _, _, _]) (i := 9) rfl ta_69 rfl rfl rfl rfl ?_)) | (refine AOps.st 6 rfl rfl rfl (op_load_c (cs' := [_, _, _, _, _, _]) rfl ta_69 rfl rfl rfl ?_))
  first | (refine AOps.st0 rfl rfl (op_store (cs' := [_, _, _, _, _, _]) (i := 0) rfl ts_69 rfl rfl rfl rfl rfl (Nat.le_of_ble_eq_true rfl) rfl ?_)) | (refine AOps.st0 rfl rfl (op_store (cs' := [_, _, _, _, _, _]) (i := 1) rfl ts_69 rfl rfl rfl rfl rfl (Nat.le_of_ble_eq_true rfl) rfl ?_)) | (refine AOps.st0 rfl rfl (op_store (cs' := [_, _, _, _, _, _]) (i := 2) rfl ts_69 rfl rfl rfl rfl rfl (Nat.le_of_ble_eq_true rfl) rfl ?_)) | (refine AOps.st0 rfl rfl (op_store (cs' := [_, _, _, _, _, _]) (i := 3) rfl ts_69 rfl rfl rfl rfl rfl (Nat.le_of_ble_eq_true rfl) rfl ?_)) | (refine AOps.st0 rfl rfl (op_store (cs' := [_, _, _, _, _, _]) (i := 4) rfl ts_69 rfl rfl rfl rfl rfl (Nat.le_of_ble_eq_true rfl) rfl ?_)) | (refine AOps.st0 rfl rfl (op_store (cs' := [_, _, _, _, _, _]) (i := 5) rfl ts_69 rfl rfl rfl rfl rfl (Nat.le_of_ble_eq_true rfl) rfl ?_)) | (refine AOps.st0 rfl rfl (op_store (cs' := [_, _, _, _, _, _]) (i := 6) rfl ts_69 rfl rfl rfl rfl rfl (Nat.le_of_ble_eq_true rfl) rfl ?_)) | (refine AOps.st0 rfl rfl (op_store (cs' := [_, _, _, _, _, _]) (i := 7) rfl ts_69 rfl rfl rfl rfl rfl (Nat.le_of_ble_eq_true rfl) rfl ?_)) | (refine AOps.st0 rfl rfl (op_store (cs' := [_, _, _, _, _, _]) (i := 8) rfl ts_69 rfl rfl rfl rfl rfl (Nat.le_of_ble_eq_true rfl) rfl ?_)) | (refine AOps.st0 rfl rfl (op_store (cs' := [_, _, _, _, _, _]) (i := 9) rfl ts_69 rfl rfl rfl rfl rfl (Nat.le_of_ble_eq_true rfl) rfl ?_))
  refine AOps.nil ?_
  refine go_code ?_
  refine c_ret ?_
  exact out_cell (i := 0) rfl rfl rfl ta_69 rfl (Le.refl _) (by first | exact MLe.none _ | exact MLe.refl _ | (repeat' (first | exact MLe.nil | exact MLe.refl _ | refine MLe.cons _ ?_ | refine MLe.drop _ ?_))) ⟨rfl, rfl⟩
set_option maxHeartbeats 4000000 in
set_option maxRecDepth 100000 in
theorem wrap_c (f : Fn) (fs cs : List AV) : PCall Try.prog 28 [.clo f fs cs] (.clo (.func 44) [] [.cptr [.clo f fs cs]]) := by
  refine ACall.enter Try.func28 rfl (by kernel_rfl) rfl (Nat.le_of_ble_eq_true rfl) ?_
  refine c_start ?_
  refine c_seq ?_
  refine c_region ?_
  refine AOps.st 1 rfl rfl rfl (op_boxc (cs' := [_]) rfl rfl rfl rfl ?_)
  refine AOps.st 2 rfl rfl rfl (op_assign rfl rfl ?_)
  refine AOps.nil ?_
  refine go_code ?_
  refine c_seq ?_
  refine c_region ?_
  refine AOps.st 3 rfl rfl rfl (op_makeFunc (fs := []) (cs := [.tmp 1]) rfl rfl rfl ?_)
  refine AOps.st 2 rfl rfl rfl (op_assign rfl rfl ?_)
  refine AOps.nil ?_
  refine go_code ?_
  refine c_ret ?_
  exact out_tmp rfl rfl (Le.refl _) (by first | exact MLe.none _ | exact MLe.refl _ | (repeat' (first | exact MLe.nil | exact MLe.refl _ | refine MLe.cons _ ?_ | refine MLe.drop _ ?_))) ⟨rfl, rfl⟩
end Go.Proofs.Ytflkdojahfmbnaa
