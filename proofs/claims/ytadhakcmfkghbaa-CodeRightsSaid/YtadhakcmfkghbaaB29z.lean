/- code.writer: number, int, signed, atom, atoms -/
import Derived.Test.YtadhakcmfkghbaaB29y
import Derived.Test.YtadhakcmfkghbaaAL15
import Derived.Test.YtadhakcmfkghbaaAY
namespace Go.Proofs.Ytadhakcmfkghbaa
open Go.RowKit
def num (n : Nat) : List Int := if n < 128 then [(n : Int)] else ((n % 128 + 128 : Nat) : Int) :: num (n / 128)
termination_by n
decreasing_by omega
theorem num_lo {n : Nat} (h : n < 128) : num n = [(n : Int)] := by rw [num, if_pos h]
theorem num_hi {n : Nat} (h : ¬ n < 128) : num n = ((n % 128 + 128 : Nat) : Int) :: num (n / 128) := by rw [num, if_neg h]
theorem or128_all : ∀ x : Fin 256, bitsOf .or .u8 (x.val : Int) 128 = ((x.val % 128 + 128 : Nat) : Int) := by decide +kernel
theorem u8wrap (n : Nat) : IntKind.u8.wrap (n : Int) = ((n % 256 : Nat) : Int) := by
  have := IntWalk.u8_in ((n % 256 : Nat) : Int) (by omega)
  rw [← this]
  unfold IntKind.wrap
  simp [IntKind.bits, IntKind.signed]
theorem or128 (n : Nat) : bitsOf .or .u8 (IntKind.u8.wrap (n : Int)) 128 = ((n % 128 + 128 : Nat) : Int) := by
  rw [u8wrap]
  have := or128_all ⟨n % 256, by omega⟩
  rw [this]
  congr 1; simp only; omega
theorem shr7 (n : Nat) : (n : Int) / 2 ^ min (7 : Int).toNat IntKind.u64.bits = ((n / 128 : Nat) : Int) := by
  have : (2 : Int) ^ min (7 : Int).toNat IntKind.u64.bits = 128 := by decide
  rw [this]; omega
theorem bts_app (a b : List Int) : bts (a ++ b) = bts a ++ bts b := by simp [bts]
theorem bts_len (a : List Int) : (bts a).length = a.length := by simp [bts]
def WM (b : Nat) (bs : List Int) (M : Mem) : Prop := ∃ u, M = [.loc b [.own u 1 (bts bs)], .own 5 1 u]
def Writes (f : FuncId) (args : Nat → List AV) (out : List Int) : Prop := ∀ (b : Nat) (bs : List Int) (M : Mem), WM b bs M → bs.length + out.length ≤ 1000000000 → ACall Try.prog f (args b) M (fun _ M' => WM b (bs ++ out) M')
set_option maxHeartbeats 4000000 in
set_option maxRecDepth 100000 in
theorem number_w (n : Nat) (hn : n < 18446744073709551616) : Writes 51 (fun b => [.ptr b 0, .val (.int .u64 n)]) (num n) := by
  rintro b bs M ⟨u0, rfl⟩ hb
  refine ACall.enter Try.func51 rfl (by kernel_rfl) rfl (Nat.le_of_ble_eq_true rfl) ?_
  refine c_start ?_
  refine c_seq ?_
  refine c_block ?_
  apply c_loopk [1, 2, 3, 4, 5, 6, 7, 8, 9, 10, 11, 12, 13, 14, 15, 16, 17, 18, 19] (σ := Nat × List Int × Value) (fun zz => match zz with | (k, cs, u) => [(1, .val (.int .u64 k))]) (fun zz => match zz with | (k, cs, u) => [.loc b [.own u 1 (bts cs)], .own 5 1 u]) (fun zz => match zz with | (k, cs, u) => k < 18446744073709551616 ∧ cs ++ num k = bs ++ num n) (fun zz => match zz with | (k, cs, u) => k) ((n, bs, u0))
  · repeat' (first | exact Drops.nil | apply Drops.keep rfl | apply Drops.skip rfl)
  · exact ⟨hn, rfl⟩
  · exact (by repeat' (first | exact SLe.nil _ | refine SLe.cons rfl ?_ ?_ | exact Le.refl _ | exact Le.own _ _ _ | exact Le.nil _))
  · exact (by first | exact MLe.none _ | exact MLe.refl _ | (repeat' (first | exact MLe.nil | exact MLe.refl _ | refine MLe.cons _ ?_ | refine MLe.drop _ ?_)))
  rintro ⟨k, cs, u⟩ hI
  try dsimp only [List.cons_append, List.nil_append] at hI ⊢
  obtain ⟨hk, he⟩ := hI
  have hle := congrArg List.length he
  simp only [List.length_append] at hle
  have hbl := bts_len cs
  refine c_seq ?_
  refine c_seq ?_
  refine c_region ?_
  refine AOps.st 4 rfl rfl rfl (op_move rfl rfl ?_)
  refine AOps.st 5 rfl rfl rfl (op_geq rfl rfl rfl ?_); intro c5 h5
  refine AOps.nil ?_
  refine go_code ?_
  rcases bool_split h5 with ⟨rfl, g5⟩ | ⟨rfl, g5⟩
  · refine c_cond_f rfl ?_
    refine c_exit ?_
    refine x_code ?_
    refine x_lp ?_
    refine x_here ?_
    refine go_code ?_
    rw [num_lo (by omega)] at he
    refine c_region ?_
    refine AOps.st 20 rfl rfl rfl (op_move rfl rfl ?_)
    refine AOps.st 21 rfl rfl rfl (op_move rfl rfl ?_)
    refine AOps.st 22 rfl rfl rfl (op_nilCheck_m rfl rfl ?_)
    refine AOps.st 23 rfl rfl rfl (op_fieldAddr_m rfl tf_66_0 rfl ?_)
    refine AOps.st 24 rfl rfl rfl (op_load_m1 (i := 0) rfl ta_31 rfl rfl rfl ?_)
    refine AOps.st 25 rfl rfl rfl (op_move rfl rfl ?_)
    refine AOps.st 26 rfl rfl rfl (op_convert rfl tu_102 tu_5 rfl (IntWalk.u8_in _ (by omega)) ?_)
    refine AOps.st 27 rfl rfl rfl (op_buildSlice (xs := [.tmp 26]) el_31 rfl rfl rfl rfl rfl rfl (Nat.le_of_ble_eq_true rfl) ?_)
    first | (refine AOps.st 28 rfl rfl rfl (op_append (i := 0) el_31 rfl rfl rfl rfl (.seq _ _) (by simp only [List.length_map, List.length_reverse, List.length_cons, List.length_nil]; omega) ?_)) | (refine AOps.st 28 rfl rfl rfl (op_append (i := 1) el_31 rfl rfl rfl rfl (.seq _ _) (by simp only [List.length_map, List.length_reverse, List.length_cons, List.length_nil]; omega) ?_))
    intro u28
    refine AOps.st 29 rfl rfl rfl (op_nilCheck_m rfl rfl ?_)
    refine AOps.st 30 rfl rfl rfl (op_fieldAddr_m rfl tf_66_0 rfl ?_)
    refine AOps.st0 rfl rfl (op_store (i := 0) rfl ts_31 rfl rfl rfl rfl rfl (Nat.le_of_ble_eq_true rfl) rfl ?_)
    refine AOps.nil ?_
    refine go_end ?_
    refine out_none rfl (MLe.refl _) ⟨u28, ?_⟩
    rw [← he, bts_app]; rfl
  · refine c_cond_t rfl ?_
    refine c_skip ?_
    refine go_code ?_
    refine c_block ?_
    refine c_seq ?_
    refine c_region ?_
    refine AOps.st 6 rfl rfl rfl (op_move rfl rfl ?_)
    refine AOps.st 7 rfl rfl rfl (op_move rfl rfl ?_)
    refine AOps.st 8 rfl rfl rfl (op_nilCheck_m rfl rfl ?_)
    refine AOps.st 9 rfl rfl rfl (op_fieldAddr_m rfl tf_66_0 rfl ?_)
    refine AOps.st 10 rfl rfl rfl (op_load_m1 (i := 0) rfl ta_31 rfl rfl rfl ?_)
    refine AOps.st 11 rfl rfl rfl (op_move rfl rfl ?_)
    first | (refine AOps.st 12 rfl rfl rfl (op_convert rfl tu_102 tu_5 rfl (IntWalk.u8_in _ (by omega)) ?_)) | (refine AOps.st 12 rfl rfl rfl (op_convert rfl tu_102 tu_5 rfl rfl ?_))
    refine AOps.st 13 rfl rfl rfl (op_bits (by simp) rfl rfl rfl (or128 k) ?_)
    refine AOps.st 14 rfl rfl rfl (op_buildSlice (xs := [.tmp 13]) el_31 rfl rfl rfl rfl rfl rfl (Nat.le_of_ble_eq_true rfl) ?_)
    first | (refine AOps.st 15 rfl rfl rfl (op_append (i := 0) el_31 rfl rfl rfl rfl (.seq _ _) (by simp only [List.length_map, List.length_reverse, List.length_cons, List.length_nil]; omega) ?_)) | (refine AOps.st 15 rfl rfl rfl (op_append (i := 1) el_31 rfl rfl rfl rfl (.seq _ _) (by simp only [List.length_map, List.length_reverse, List.length_cons, List.length_nil]; omega) ?_))
    intro u15
    refine AOps.st 16 rfl rfl rfl (op_nilCheck_m rfl rfl ?_)
    refine AOps.st 17 rfl rfl rfl (op_fieldAddr_m rfl tf_66_0 rfl ?_)
    refine AOps.st0 rfl rfl (op_store (i := 0) rfl ts_31 rfl rfl rfl rfl rfl (Nat.le_of_ble_eq_true rfl) rfl ?_)
    refine AOps.nil ?_
    refine go_code ?_
    rw [num_hi (by omega)] at he
    refine c_region ?_
    refine AOps.st 18 rfl rfl rfl (op_move rfl rfl ?_)
    refine AOps.st 19 rfl rfl rfl (op_shr rfl rfl rfl (by omega) (shr7 k) ?_)
    refine AOps.st 1 rfl rfl rfl (op_assign rfl rfl ?_)
    refine AOps.nil ?_
    refine go_blk ?_
    refine go_lp ?_
    refine ⟨(k / 128, cs ++ [((k % 128 + 128 : Nat) : Int)], u15), ⟨by show k / 128 < _; omega, by rw [← he]; simp⟩, by simp; omega, (by repeat' (first | exact SLe.nil _ | refine SLe.cons rfl ?_ ?_ | exact Le.refl _ | exact Le.own _ _ _ | exact Le.nil _)), ?_⟩
    refine MLe.loc _ (Les.cons (Le.own_eq ?_) (Les.refl _)) (MLe.refl _)
    rw [bts_app]; rfl
set_option maxHeartbeats 4000000 in
set_option maxRecDepth 100000 in
theorem int_w (n : Nat) (hn : n < 9223372036854775808) : Writes 30 (fun b => [.ptr b 0, .val (.int .i64 n)]) (num n) := by
  intro b bs M hM hb
  have H := number_w n (by omega) b bs M hM hb
  refine ACall.enter Try.func30 rfl (by kernel_rfl) rfl (Nat.le_of_ble_eq_true rfl) ?_
  refine c_start ?_
  refine c_region ?_
  refine AOps.st 4 rfl rfl rfl (op_move rfl rfl ?_)
  refine AOps.st 5 rfl rfl rfl (op_move rfl rfl ?_)
  refine AOps.st 6 rfl rfl rfl (op_convert rfl tu_3 tu_102 rfl (IntWalk.u64_in _ (by omega)) ?_)
  refine AOps.st 7 rfl rfl rfl (op_callm (xs := [.tmp 4, .tmp 6])  [] rfl rfl rfl H (Les.refl _) (fun v7 M7 h7 => ?_))
  refine AOps.nil ?_
  refine go_end ?_
  exact out_none rfl (MLe.refl _) h7
end Go.Proofs.Ytadhakcmfkghbaa
