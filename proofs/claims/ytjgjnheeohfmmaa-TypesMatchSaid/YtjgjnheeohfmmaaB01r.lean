/- the document's Text and Letter -/
import Derived.Test.YtjgjnheeohfmmaaAY
import Derived.Test.YtjgjnheeohfmmaaB08l
namespace Go.Proofs.Ytjgjnheeohfmmaa
open Go.RowKit
theorem strOfNums_app (a b : List Int) : strOfNums a ++ strOfNums b = strOfNums (a ++ b) := by
  apply ByteArray.ext
  simp [strOfNums, ByteArray.data_append]
theorem Le.int_eq {k : IntKind} {a b : Int} (h : a = b) : Le (.val (.int k a)) (.val (.int k b)) := by rw [h]; exact Le.refl _
theorem digs_len : ∀ (f u : Nat) (acc : List Int), (digs f u acc).length ≤ f + acc.length := digs_le
set_option maxRecDepth 100000 in
theorem Digits_c (U : Nat) (hU : U < 10 ^ 20) (hU2 : U ≤ 18446744073709551615) : PCall Try.prog 112 [.val (.int .u64 U)] (.val (.string (strOfNums (digs 20 U [])))) := by
  refine ACall.enter Try.func112 rfl (by kernel_rfl) rfl (Nat.le_of_ble_eq_true rfl) ?_
  refine c_start ?_
  refine c_seq ?_
  refine c_region ?_
  refine AOps.st 2 rfl rfl rfl (op_assign rfl rfl ?_)
  refine AOps.nil ?_
  refine go_code ?_
  refine c_seq ?_
  refine c_region ?_
  refine AOps.st 3 rfl rfl rfl (op_assign rfl rfl ?_)
  refine AOps.nil ?_
  refine go_code ?_
  refine c_seq ?_
  refine c_block ?_
  refine c_loop (σ := Nat × Nat × List Int) (fun zz => match zz with | (u, f, acc) => [(0, .val (.int .u64 u)), (3, .val (.string (strOfNums acc)))]) (fun zz => match zz with | (u, f, acc) => []) (fun zz => match zz with | (u, f, acc) => u < 10 ^ (f + 1) ∧ f + 1 + acc.length = 20 ∧ u ≤ 18446744073709551615 ∧ digs (f + 1) u acc = digs 20 U []) (fun zz => match zz with | (u, f, acc) => u) ((U, 19, [])) ?_ ?_ ?_ ?_
  · exact ⟨hU, rfl, hU2, rfl⟩
  · exact (by repeat' (first | exact SLe.nil _ | refine SLe.cons rfl ?_ ?_ | exact Le.refl _ | exact Le.own _ _ _ | exact Le.nil _))
  · exact (by first | exact MLe.none _ | exact MLe.refl _ | (repeat' (first | exact MLe.nil | exact MLe.refl _ | refine MLe.cons _ ?_ | refine MLe.drop _ ?_)))
  rintro ⟨u, f, acc⟩ hI
  try dsimp only at hI ⊢
  obtain ⟨h1, h2, h3, h4⟩ := hI
  have hsz := strOfNums_size acc
  have hs1 : ∀ x : Int, (strOfNums [x]).size = 1 := fun x => strOfNums_size [x]
  refine c_seq ?_
  refine c_seq ?_
  refine c_region ?_
  refine AOps.st 4 rfl rfl rfl (op_move rfl rfl ?_)
  refine AOps.st 5 rfl rfl rfl (op_gtr rfl rfl rfl ?_); intro c5 h5
  refine AOps.nil ?_
  refine go_code ?_
  rcases bool_split h5 with ⟨rfl, g5⟩ | ⟨rfl, g5⟩
  · refine c_cond_f rfl ?_
    refine c_exit ?_
    refine x_code ?_
    refine x_lp ?_
    refine x_here ?_
    refine go_code ?_
    refine c_seq ?_
    have hs2 := hs1 (48 + (u : Int))
    rw [digs, if_pos (by omega)] at h4
    refine c_region ?_
    refine AOps.st 16 rfl rfl rfl (op_move rfl rfl ?_)
    first | (refine AOps.st 17 rfl rfl rfl (op_add rfl rfl rfl (IntWalk.u64_in _ (by omega)) ?_)) | (refine AOps.st 17 rfl rfl rfl (op_add rfl rfl rfl rfl ?_))
    first | (refine AOps.st 18 rfl rfl rfl (op_convert rfl tu_139 tu_5 rfl (IntWalk.u8_in _ (by omega)) ?_)) | (refine AOps.st 18 rfl rfl rfl (op_convert rfl tu_139 tu_5 rfl rfl ?_))
    refine AOps.st 19 rfl rfl rfl (op_buildSlice (xs := [.tmp 18]) el_140 rfl rfl rfl rfl rfl rfl (Nat.le_of_ble_eq_true rfl) ?_)
    refine AOps.st 20 rfl rfl rfl (op_bytestr (xs := [48 + (u : Int)]) rfl tu_140 tu_5 tu_9 rfl (.seq 1 _) (by simp) ?_)
    refine AOps.st 21 rfl rfl rfl (op_move rfl rfl ?_)
    refine AOps.st 22 rfl rfl rfl (op_sadd rfl rfl rfl (by omega) ?_)
    refine AOps.st 2 rfl rfl rfl (op_assign rfl rfl ?_)
    refine AOps.nil ?_
    refine go_code ?_
    refine c_ret ?_
    refine out_tmp rfl rfl (Le.refl _) (by first | exact MLe.none _ | exact MLe.refl _ | (repeat' (first | exact MLe.nil | exact MLe.refl _ | refine MLe.cons _ ?_ | refine MLe.drop _ ?_))) ⟨?_, rfl⟩
    rw [← h4, strOfNums_app, show (u : Int) % 10 = u from by omega]
    rfl
  · refine c_cond_t rfl ?_
    refine c_skip ?_
    refine go_code ?_
    refine c_block ?_
    refine c_seq ?_
    have hs2 := hs1 (48 + (u : Int) % 10)
    refine c_region ?_
    refine AOps.st 6 rfl rfl rfl (op_move rfl rfl ?_)
    first | (refine AOps.st 7 rfl rfl rfl (op_rem rfl rfl rfl (by omega) (Int.tmod_eq_emod_of_nonneg (by omega)) ?_)) | (refine AOps.st 7 rfl rfl rfl (op_rem rfl rfl rfl (by omega) rfl ?_))
    first | (refine AOps.st 8 rfl rfl rfl (op_add rfl rfl rfl (IntWalk.u64_in _ (by omega)) ?_)) | (refine AOps.st 8 rfl rfl rfl (op_add rfl rfl rfl rfl ?_))
    first | (refine AOps.st 9 rfl rfl rfl (op_convert rfl tu_139 tu_5 rfl (IntWalk.u8_in _ (by omega)) ?_)) | (refine AOps.st 9 rfl rfl rfl (op_convert rfl tu_139 tu_5 rfl rfl ?_))
    refine AOps.st 10 rfl rfl rfl (op_buildSlice (xs := [.tmp 9]) el_140 rfl rfl rfl rfl rfl rfl (Nat.le_of_ble_eq_true rfl) ?_)
    refine AOps.st 11 rfl rfl rfl (op_bytestr (xs := [48 + (u : Int) % 10]) rfl tu_140 tu_5 tu_9 rfl (.seq 1 _) (by simp) ?_)
    refine AOps.st 12 rfl rfl rfl (op_move rfl rfl ?_)
    refine AOps.st 13 rfl rfl rfl (op_sadd rfl rfl rfl (by omega) ?_)
    refine AOps.st 3 rfl rfl rfl (op_assign rfl rfl ?_)
    refine AOps.nil ?_
    refine go_code ?_
    refine c_region ?_
    refine AOps.st 14 rfl rfl rfl (op_move rfl rfl ?_)
    first | (refine AOps.st 15 rfl rfl rfl (op_quo rfl rfl rfl (by omega) (IntWalk.u64_quo _ _ (by omega)) ?_)) | (refine AOps.st 15 rfl rfl rfl (op_quo rfl rfl rfl (by omega) rfl ?_))
    refine AOps.st 0 rfl rfl rfl (op_assign rfl rfl ?_)
    refine AOps.nil ?_
    refine go_blk ?_
    refine go_lp ?_
    obtain ⟨f, rfl⟩ : ∃ f', f = f' + 1 := by
      cases f with
      | zero => simp at h1; omega
      | succ f => exact ⟨f, rfl⟩
    rw [digs, if_neg (by omega)] at h4
    refine ⟨(u / 10, f, (48 + (u : Int) % 10) :: acc), ⟨(show u / 10 < 10 ^ (f + 1) from Nat.div_lt_of_lt_mul (by rw [Nat.pow_succ, Nat.mul_comm] at h1; exact h1)), by simp at h2 ⊢; omega, by simp; omega, h4⟩, by simp; omega, ?_, (by first | exact MLe.none _ | exact MLe.refl _ | (repeat' (first | exact MLe.nil | exact MLe.refl _ | refine MLe.cons _ ?_ | refine MLe.drop _ ?_)))⟩
    refine SLe.cons rfl (Le.int_eq (by simp)) (SLe.cons rfl ?_ (SLe.nil _))
    rw [strOfNums_app]
    exact Le.refl _
theorem RWrapA_c (n : Int) : PCall Try.prog 111 [.val (.int .i64 n)] (.val (.int .i64 (W63 n))) :=
  PCall.of_calls (vs := [.int .i64 n]) (enters_of Try.func111 (by kernel_rfl) rfl) (fun w => (RWrap_c n w).mono (by rintro e w' ⟨rfl, rfl⟩; exact ⟨rfl, Below.refl _ _⟩))
theorem sizeA_c (n : Int) (h1 : -9223372036854775808 ≤ n) (h2 : n ≤ 9223372036854775807) : PCall Try.prog 113 [.val (.int .i64 n)] (.val (.int .u64 (absI n))) :=
  PCall.of_calls (vs := [.int .i64 n]) (enters_of Try.func113 (by kernel_rfl) rfl) (fun w => (size_c n w h1 h2).mono (by rintro e w' ⟨rfl, rfl⟩; exact ⟨rfl, Below.refl _ _⟩))
set_option maxRecDepth 100000 in
theorem rText_c (n : Int) : PCall Try.prog 64 [.val (.int .i64 n)] (.val (.string (txt (W63 n)))) := by
  have hb := W63_bd n
  have ha := absI_W63 n
  have HW := RWrapA_c n
  generalize W63 n = z at *
  obtain ⟨U, hU⟩ : ∃ U : Nat, absI z = U := ⟨(absI z).toNat, by have := absI_lo z; omega⟩
  have HS := sizeA_c z (by omega) (by omega)
  rw [hU] at HS ha
  have HD := Digits_c U (by omega) (by omega)
  have hl := digs_le 20 U []
  simp only [List.length_nil] at hl
  have hsz := strOfNums_size (digs 20 U [])
  have hq : (if z < 0 then (-z).toNat else z.toNat) = U := by unfold absI at hU; split <;> rename_i h <;> simp [h] at hU <;> omega
  have hT : txt z = if z < 0 then strOfNums [45] ++ strOfNums (digs 20 U []) else strOfNums (digs 20 U []) := by
    unfold txt
    split <;> rename_i h
    · rw [if_pos h] at hq; rw [hq, strOfNums_app]; rfl
    · rw [if_neg h] at hq; rw [hq]
  rw [hT]
  generalize strOfNums (digs 20 U []) = ds at *
  clear hT hq
  have h45 : (⟨#[45]⟩ : ByteArray).size = 1 := rfl
  refine ACall.enter Try.func64 rfl (by kernel_rfl) rfl (Nat.le_of_ble_eq_true rfl) ?_
  refine c_start ?_
  refine c_seq ?_
  refine c_region ?_
  refine AOps.st 2 rfl rfl rfl (op_assign rfl rfl ?_)
  refine AOps.nil ?_
  refine go_code ?_
  refine c_seq ?_
  refine c_region ?_
  refine AOps.st 4 rfl rfl rfl (op_move rfl rfl ?_)
  refine AOps.st 5 rfl rfl rfl (op_callp (xs := [.tmp 4]) rfl rfl (HW) (by first | exact Les.refl _ | (repeat' (first | exact Les.refl _ | refine Les.cons ?_ ?_ | exact Le.refl _ | exact Le.own _ _ _ | exact Le.nil _ | refine Le.agg ?_))) ?_)
  refine AOps.st 3 rfl rfl rfl (op_assign rfl rfl ?_)
  refine AOps.nil ?_
  refine go_code ?_
  refine c_seq ?_
  refine c_seq ?_
  refine c_region ?_
  refine AOps.st 6 rfl rfl rfl (op_move rfl rfl ?_)
  refine AOps.st 7 rfl rfl rfl (op_lss rfl rfl rfl ?_); intro c7 h7
  refine AOps.nil ?_
  refine go_code ?_
  rcases bool_split h7 with ⟨rfl, g7⟩ | ⟨rfl, g7⟩
  · refine c_cond_f rfl ?_
    refine c_skip ?_
    refine go_code ?_
    refine c_seq ?_
    refine c_region ?_
    refine AOps.st 12 rfl rfl rfl (op_move rfl rfl ?_)
    refine AOps.st 13 rfl rfl rfl (op_callp (xs := [.tmp 12]) rfl rfl (HS) (by first | exact Les.refl _ | (repeat' (first | exact Les.refl _ | refine Les.cons ?_ ?_ | exact Le.refl _ | exact Le.own _ _ _ | exact Le.nil _ | refine Le.agg ?_))) ?_)
    refine AOps.st 14 rfl rfl rfl (op_callp (xs := [.tmp 13]) rfl rfl (HD) (by first | exact Les.refl _ | (repeat' (first | exact Les.refl _ | refine Les.cons ?_ ?_ | exact Le.refl _ | exact Le.own _ _ _ | exact Le.nil _ | refine Le.agg ?_))) ?_)
    refine AOps.st 2 rfl rfl rfl (op_assign rfl rfl ?_)
    refine AOps.nil ?_
    refine go_code ?_
    refine c_ret ?_
    exact out_tmp rfl rfl (Le.refl _) (by first | exact MLe.none _ | exact MLe.refl _ | (repeat' (first | exact MLe.nil | exact MLe.refl _ | refine MLe.cons _ ?_ | refine MLe.drop _ ?_))) ⟨by rw [if_neg g7], rfl⟩
  · refine c_cond_t rfl ?_
    refine c_seq ?_
    refine c_region ?_
    refine AOps.st 8 rfl rfl rfl (op_move rfl rfl ?_)
    refine AOps.st 9 rfl rfl rfl (op_callp (xs := [.tmp 8]) rfl rfl (HS) (by first | exact Les.refl _ | (repeat' (first | exact Les.refl _ | refine Les.cons ?_ ?_ | exact Le.refl _ | exact Le.own _ _ _ | exact Le.nil _ | refine Le.agg ?_))) ?_)
    refine AOps.st 10 rfl rfl rfl (op_callp (xs := [.tmp 9]) rfl rfl (HD) (by first | exact Les.refl _ | (repeat' (first | exact Les.refl _ | refine Les.cons ?_ ?_ | exact Le.refl _ | exact Le.own _ _ _ | exact Le.nil _ | refine Le.agg ?_))) ?_)
    refine AOps.st 11 rfl rfl rfl (op_sadd rfl rfl rfl (by omega) ?_)
    refine AOps.st 2 rfl rfl rfl (op_assign rfl rfl ?_)
    refine AOps.nil ?_
    refine go_code ?_
    refine c_ret ?_
    exact out_tmp rfl rfl (Le.refl _) (by first | exact MLe.none _ | exact MLe.refl _ | (repeat' (first | exact MLe.nil | exact MLe.refl _ | refine MLe.cons _ ?_ | refine MLe.drop _ ?_))) ⟨by rw [if_pos g7]; rfl, rfl⟩
theorem alph_at : ∀ j : Fin 26, (⟨#[97, 98, 99, 100, 101, 102, 103, 104, 105, 106, 107, 108, 109, 110, 111, 112, 113, 114, 115, 116, 117, 118, 119, 120, 121, 122]⟩ : ByteArray).extract j.val (j.val + 1) = Utf8.encode (97 + (j.val : Int)) := by decide +kernel
set_option maxRecDepth 100000 in
theorem rLetter_c (i : Int) (h1 : i ≤ 9223372036854775807) : PCall Try.prog 19 [.val (.int .i64 i)] (.val (.string (letter i))) := by
  have hE := enc_size (97 + i % 26)
  have hT := txt_size (W63 (i / 26))
  obtain ⟨j, hj⟩ : ∃ j : Nat, i % 26 = j := ⟨(i % 26).toNat, by omega⟩
  have hA := alph_at ⟨j, by omega⟩
  simp only at hA
  rw [← hj] at hA
  refine ACall.enter Try.func19 rfl (by kernel_rfl) rfl (Nat.le_of_ble_eq_true rfl) ?_
  refine c_start ?_
  refine c_seq ?_
  refine c_region ?_
  refine AOps.st 2 rfl rfl rfl (op_assign rfl rfl ?_)
  refine AOps.nil ?_
  refine go_code ?_
  refine c_seq ?_
  refine c_seq ?_
  refine c_region ?_
  refine AOps.st 4 rfl rfl rfl (op_move rfl rfl ?_)
  refine AOps.st 5 rfl rfl rfl (op_lss rfl rfl rfl ?_); intro c5 h5
  refine AOps.nil ?_
  refine go_code ?_
  rcases bool_split h5 with ⟨rfl, g5⟩ | ⟨rfl, g5⟩
  · refine c_cond_f rfl ?_
    refine c_skip ?_
    refine go_code ?_
    refine c_seq ?_
    refine c_region ?_
    refine AOps.st 6 rfl rfl rfl (op_move rfl rfl ?_)
    first | (refine AOps.st 7 rfl rfl rfl (op_rem rfl rfl rfl (by omega) (Int.tmod_eq_emod_of_nonneg (by omega)) ?_)) | (refine AOps.st 7 rfl rfl rfl (op_rem rfl rfl rfl (by omega) rfl ?_))
    refine AOps.st 8 rfl rfl rfl (op_move rfl rfl ?_)
    first | (refine AOps.st 9 rfl rfl rfl (op_rem rfl rfl rfl (by omega) (Int.tmod_eq_emod_of_nonneg (by omega)) ?_)) | (refine AOps.st 9 rfl rfl rfl (op_rem rfl rfl rfl (by omega) rfl ?_))
    first | (refine AOps.st 10 rfl rfl rfl (op_add rfl rfl rfl (IntWalk.i64_in _ (by omega)) ?_)) | (refine AOps.st 10 rfl rfl rfl (op_add rfl rfl rfl rfl ?_))
    refine AOps.st 11 rfl rfl rfl (op_substr rfl tu_9 rfl rfl rfl (i := j) (j := j + 1) hj (by rw [hj]; omega) (by omega) (by show j + 1 ≤ 26; omega) ?_)
    refine AOps.st 3 rfl rfl rfl (op_assign rfl rfl ?_)
    refine AOps.nil ?_
    rw [hA]
    refine go_code ?_
    refine c_seq ?_
    refine c_seq ?_
    refine c_region ?_
    refine AOps.st 12 rfl rfl rfl (op_move rfl rfl ?_)
    refine AOps.st 13 rfl rfl rfl (op_lss rfl rfl rfl ?_); intro c13 h13
    refine AOps.nil ?_
    refine go_code ?_
    rcases bool_split h13 with ⟨rfl, g13⟩ | ⟨rfl, g13⟩
    · refine c_cond_f rfl ?_
      refine c_skip ?_
      refine go_code ?_
      refine c_seq ?_
      refine c_region ?_
      refine AOps.st 15 rfl rfl rfl (op_move rfl rfl ?_)
      refine AOps.st 16 rfl rfl rfl (op_move rfl rfl ?_)
      first | (refine AOps.st 17 rfl rfl rfl (op_quo rfl rfl rfl (by omega) (IntWalk.i64_quo _ _ (by omega)) ?_)) | (refine AOps.st 17 rfl rfl rfl (op_quo rfl rfl rfl (by omega) rfl ?_))
      refine AOps.st 18 rfl rfl rfl (op_callp (xs := [.tmp 17]) rfl rfl (rText_c (i / 26)) (by first | exact Les.refl _ | (repeat' (first | exact Les.refl _ | refine Les.cons ?_ ?_ | exact Le.refl _ | exact Le.own _ _ _ | exact Le.nil _ | refine Le.agg ?_))) ?_)
      refine AOps.st 19 rfl rfl rfl (op_sadd rfl rfl rfl (by omega) ?_)
      refine AOps.st 2 rfl rfl rfl (op_assign rfl rfl ?_)
      refine AOps.nil ?_
      refine go_code ?_
      refine c_ret ?_
      exact out_tmp rfl rfl (Le.refl _) (by first | exact MLe.none _ | exact MLe.refl _ | (repeat' (first | exact MLe.nil | exact MLe.refl _ | refine MLe.cons _ ?_ | refine MLe.drop _ ?_))) ⟨by rw [letter, if_neg g5, if_pos (by omega)], rfl⟩
    · refine c_cond_t rfl ?_
      refine c_seq ?_
      refine c_region ?_
      refine AOps.st 14 rfl rfl rfl (op_move rfl rfl ?_)
      refine AOps.st 2 rfl rfl rfl (op_assign rfl rfl ?_)
      refine AOps.nil ?_
      refine go_code ?_
      refine c_ret ?_
      exact out_tmp rfl rfl (Le.refl _) (by first | exact MLe.none _ | exact MLe.refl _ | (repeat' (first | exact MLe.nil | exact MLe.refl _ | refine MLe.cons _ ?_ | refine MLe.drop _ ?_))) ⟨by rw [letter, if_neg g5, if_neg (by omega)], rfl⟩
  · refine c_cond_t rfl ?_
    refine c_seq ?_
    refine c_region ?_
    refine AOps.st 2 rfl rfl rfl (op_assign rfl rfl ?_)
    refine AOps.nil ?_
    refine go_code ?_
    refine c_ret ?_
    exact out_tmp rfl rfl (Le.refl _) (by first | exact MLe.none _ | exact MLe.refl _ | (repeat' (first | exact MLe.nil | exact MLe.refl _ | refine MLe.cons _ ?_ | refine MLe.drop _ ?_))) ⟨by rw [letter, if_pos g5], rfl⟩
end Go.Proofs.Ytjgjnheeohfmmaa
