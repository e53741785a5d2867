/- strs: Len, two, Cat, Order; strings.Compare. -/
import Derived.Test.YtecpnlhjjmcllaaB32g
import Derived.Test.YtecpnlhjjmcllaaAL18
namespace Go.Proofs.Ytecpnlhjjmcllaa
open Go.RowKit
def orE (x : Option ByteArray) : ByteArray := x.getD ⟨#[]⟩
theorem getR_eq (H : List HO) (w : Int) : getR H w = .tup [.val (.string (orE (getT H w))), .val (.bool (getT H w).isSome)] := by
  unfold getR
  cases getT H w <;> rfl
theorem getT_some {H : List HO} {w : Int} {s : ByteArray} (hH : ∀ o ∈ H, o.ok) (h : getT H w = some s) : ∃ o, objOf H w = some o ∧ IsT o s := by
  unfold getT at h
  cases ho : objOf H w with
  | none => rw [ho] at h; cases h
  | some o =>
    rw [ho] at h
    simp only at h
    obtain ⟨a, _, _, a3, _, _, _, hmem⟩ := obj_at ho
    split at h
    · rename_i hw
      cases h
      exact ⟨o, rfl, (isT_iff (hH o hmem)).2 ⟨hw.1, hw.2, rfl⟩⟩
    · cases h
theorem getT_size {H : List HO} {w : Int} (hH : ∀ o ∈ H, o.ok) : (orE (getT H w)).size ≤ 8 * used H := by
  cases h : getT H w with
  | none => exact Nat.zero_le _
  | some s =>
    obtain ⟨o, ho, rfl, _⟩ := getT_some hH h
    obtain ⟨a, _, _, a3, _, _, _, hmem⟩ := obj_at ho
    have : (textO s).parts.length = (s.size + 7) / 8 + 1 := txt_len s
    show s.size ≤ _
    omega
theorem getT_text {H : List HO} {w : Int} {s : ByteArray} (h : objOf H w = some (textO s)) (hs : s.size ≤ 1000000000) : getT H w = some s := by
  obtain ⟨h1, h2, h3⟩ := text_words hs
  unfold getT
  rw [h]
  simp only
  rw [h2, h3, if_pos ⟨h1, (tOk_pack s).1⟩, (tOk_pack s).2]
set_option maxHeartbeats 4000000 in
set_option maxRecDepth 100000 in
theorem Len_c (b : Nat) (sz : Int) (H : List HO) (M : Mem) (hM : HeapAt b sz H M) (h : 0 < sz) (hH : ∀ o ∈ H, o.ok) (hu : used H ≤ 1000000) (w : Int) (h0 : 0 ≤ w) (h1 : w ≤ 18446744073709551615) : KCall Try.prog 33 [.ptr b 0, .val (.int .u64 w)] M (.tup [.val (.int .i64 (orE (getT H w)).size), .val (.bool (getT H w).isSome)]) := by
  have hG := Get_c b sz H M hM h hH hu w h0 h1
  rw [getR_eq] at hG
  obtain ⟨r0, r1, r2, rfl⟩ := hM.three
  generalize getT H w = g at *
  refine ACall.enter Try.func33 rfl (by kernel_rfl) rfl (Nat.le_of_ble_eq_true rfl) ?_
  refine c_start ?_
  refine c_seq ?_
  refine c_region ?_
  refine AOps.st 4 rfl rfl rfl (op_assign rfl rfl ?_)
  refine AOps.st 5 rfl rfl rfl (op_assign rfl rfl ?_)
  refine AOps.nil ?_
  refine go_code ?_
  refine c_seq ?_
  refine c_region ?_
  refine AOps.st 9 rfl rfl rfl (op_move rfl rfl ?_)
  refine AOps.st 10 rfl rfl rfl (op_move rfl rfl ?_)
  refine AOps.st 11 rfl rfl rfl (op_callk (xs := [.tmp 9, .tmp 10]) [0,0,0] rfl rfl rfl (hG) (by first | exact Les.refl _ | (repeat' (first | exact Les.refl _ | refine Les.cons ?_ ?_ | exact Le.refl _ | exact Le.own _ _ _ | exact Le.nil _ | refine Le.agg ?_))) ?_)
  refine AOps.st 8 rfl rfl rfl (op_move rfl rfl ?_)
  refine AOps.st 12 rfl rfl rfl (op_extract rfl rfl rfl ?_)
  refine AOps.st 13 rfl rfl rfl (op_extract rfl rfl rfl ?_)
  refine AOps.st 6 rfl rfl rfl (op_assign rfl rfl ?_)
  refine AOps.st 7 rfl rfl rfl (op_assign rfl rfl ?_)
  refine AOps.nil ?_
  refine go_code ?_
  refine c_seq ?_
  refine c_region ?_
  refine AOps.st 14 rfl rfl rfl (op_move rfl rfl ?_)
  refine AOps.st 15 rfl rfl rfl (op_len_str rfl tu_9 rfl ?_)
  refine AOps.st 16 rfl rfl rfl (op_move rfl rfl ?_)
  refine AOps.st 4 rfl rfl rfl (op_assign rfl rfl ?_)
  refine AOps.st 5 rfl rfl rfl (op_assign rfl rfl ?_)
  refine AOps.nil ?_
  refine go_code ?_
  refine c_ret ?_
  exact out_tt rfl rfl rfl (Le.refl _) (by first | exact MLe.none _ | exact MLe.refl _ | (repeat' (first | exact MLe.nil | exact MLe.refl _ | refine MLe.cons _ ?_ | refine MLe.drop _ ?_))) ⟨rfl, rfl⟩
set_option maxHeartbeats 4000000 in
set_option maxRecDepth 100000 in
theorem two_c (b : Nat) (sz : Int) (H : List HO) (M : Mem) (hM : HeapAt b sz H M) (h : 0 < sz) (hH : ∀ o ∈ H, o.ok) (hu : used H ≤ 1000000) (x y : Int) (h0 : 0 ≤ x) (h1 : x ≤ 18446744073709551615) (h2 : 0 ≤ y) (h3 : y ≤ 18446744073709551615) : KCall Try.prog 55 [.ptr b 0, .val (.int .u64 x), .val (.int .u64 y)] M (.tup [.val (.string (orE (getT H x))), .val (.string (orE (getT H y))), .val (.bool ((getT H x).isSome && (getT H y).isSome))]) := by
  have hX := Get_c b sz H M hM h hH hu x h0 h1
  have hY := Get_c b sz H M hM h hH hu y h2 h3
  rw [getR_eq] at hX hY
  obtain ⟨r0, r1, r2, rfl⟩ := hM.three
  generalize getT H x = gx at *
  generalize getT H y = gy at *
  cases gx with
  | none =>
    simp only [Option.isSome, Bool.false_and] at hX ⊢
    refine ACall.enter Try.func55 rfl (by kernel_rfl) rfl (Nat.le_of_ble_eq_true rfl) ?_
    refine c_start ?_
    refine c_seq ?_
    refine c_region ?_
    refine AOps.st 6 rfl rfl rfl (op_assign rfl rfl ?_)
    refine AOps.st 7 rfl rfl rfl (op_assign rfl rfl ?_)
    refine AOps.st 8 rfl rfl rfl (op_assign rfl rfl ?_)
    refine AOps.nil ?_
    refine go_code ?_
    refine c_seq ?_
    refine c_region ?_
    refine AOps.st 14 rfl rfl rfl (op_move rfl rfl ?_)
    refine AOps.st 15 rfl rfl rfl (op_move rfl rfl ?_)
    refine AOps.st 16 rfl rfl rfl (op_callk (xs := [.tmp 14, .tmp 15]) [0,0,0] rfl rfl rfl (hX) (by first | exact Les.refl _ | (repeat' (first | exact Les.refl _ | refine Les.cons ?_ ?_ | exact Le.refl _ | exact Le.own _ _ _ | exact Le.nil _ | refine Le.agg ?_))) ?_)
    refine AOps.st 13 rfl rfl rfl (op_move rfl rfl ?_)
    refine AOps.st 17 rfl rfl rfl (op_extract rfl rfl rfl ?_)
    refine AOps.st 18 rfl rfl rfl (op_extract rfl rfl rfl ?_)
    refine AOps.st 9 rfl rfl rfl (op_assign rfl rfl ?_)
    refine AOps.st 10 rfl rfl rfl (op_assign rfl rfl ?_)
    refine AOps.nil ?_
    refine go_code ?_
    refine c_seq ?_
    refine c_region ?_
    refine AOps.st 20 rfl rfl rfl (op_move rfl rfl ?_)
    refine AOps.st 21 rfl rfl rfl (op_move rfl rfl ?_)
    refine AOps.st 22 rfl rfl rfl (op_callk (xs := [.tmp 20, .tmp 21]) [0,0,0] rfl rfl rfl (hY) (by first | exact Les.refl _ | (repeat' (first | exact Les.refl _ | refine Les.cons ?_ ?_ | exact Le.refl _ | exact Le.own _ _ _ | exact Le.nil _ | refine Le.agg ?_))) ?_)
    refine AOps.st 19 rfl rfl rfl (op_move rfl rfl ?_)
    refine AOps.st 23 rfl rfl rfl (op_extract rfl rfl rfl ?_)
    refine AOps.st 24 rfl rfl rfl (op_extract rfl rfl rfl ?_)
    refine AOps.st 11 rfl rfl rfl (op_assign rfl rfl ?_)
    refine AOps.st 12 rfl rfl rfl (op_assign rfl rfl ?_)
    refine AOps.nil ?_
    refine go_code ?_
    refine c_seq ?_
    refine c_region ?_
    refine AOps.st 25 rfl rfl rfl (op_move rfl rfl ?_)
    refine AOps.st 26 rfl rfl rfl (op_move rfl rfl ?_)
    refine AOps.st 27 rfl rfl rfl (op_move rfl rfl ?_)
    refine AOps.st 28 rfl rfl rfl (op_move rfl rfl ?_)
    refine AOps.gf 29 rfl rfl rfl rfl rfl ?_
    refine AOps.st 30 rfl rfl rfl (op_pick rfl rfl rfl ?_)
    refine AOps.st 6 rfl rfl rfl (op_assign rfl rfl ?_)
    refine AOps.st 7 rfl rfl rfl (op_assign rfl rfl ?_)
    refine AOps.st 8 rfl rfl rfl (op_assign rfl rfl ?_)
    refine AOps.nil ?_
    refine go_code ?_
    refine c_ret ?_
    exact out_ttt rfl rfl rfl rfl (Le.refl _) (by first | exact MLe.none _ | exact MLe.refl _ | (repeat' (first | exact MLe.nil | exact MLe.refl _ | refine MLe.cons _ ?_ | refine MLe.drop _ ?_))) ⟨rfl, rfl⟩
  | some s =>
    simp only [Option.isSome, Bool.true_and] at hX ⊢
    refine ACall.enter Try.func55 rfl (by kernel_rfl) rfl (Nat.le_of_ble_eq_true rfl) ?_
    refine c_start ?_
    refine c_seq ?_
    refine c_region ?_
    refine AOps.st 6 rfl rfl rfl (op_assign rfl rfl ?_)
    refine AOps.st 7 rfl rfl rfl (op_assign rfl rfl ?_)
    refine AOps.st 8 rfl rfl rfl (op_assign rfl rfl ?_)
    refine AOps.nil ?_
    refine go_code ?_
    refine c_seq ?_
    refine c_region ?_
    refine AOps.st 14 rfl rfl rfl (op_move rfl rfl ?_)
    refine AOps.st 15 rfl rfl rfl (op_move rfl rfl ?_)
    refine AOps.st 16 rfl rfl rfl (op_callk (xs := [.tmp 14, .tmp 15]) [0,0,0] rfl rfl rfl (hX) (by first | exact Les.refl _ | (repeat' (first | exact Les.refl _ | refine Les.cons ?_ ?_ | exact Le.refl _ | exact Le.own _ _ _ | exact Le.nil _ | refine Le.agg ?_))) ?_)
    refine AOps.st 13 rfl rfl rfl (op_move rfl rfl ?_)
    refine AOps.st 17 rfl rfl rfl (op_extract rfl rfl rfl ?_)
    refine AOps.st 18 rfl rfl rfl (op_extract rfl rfl rfl ?_)
    refine AOps.st 9 rfl rfl rfl (op_assign rfl rfl ?_)
    refine AOps.st 10 rfl rfl rfl (op_assign rfl rfl ?_)
    refine AOps.nil ?_
    refine go_code ?_
    refine c_seq ?_
    refine c_region ?_
    refine AOps.st 20 rfl rfl rfl (op_move rfl rfl ?_)
    refine AOps.st 21 rfl rfl rfl (op_move rfl rfl ?_)
    refine AOps.st 22 rfl rfl rfl (op_callk (xs := [.tmp 20, .tmp 21]) [0,0,0] rfl rfl rfl (hY) (by first | exact Les.refl _ | (repeat' (first | exact Les.refl _ | refine Les.cons ?_ ?_ | exact Le.refl _ | exact Le.own _ _ _ | exact Le.nil _ | refine Le.agg ?_))) ?_)
    refine AOps.st 19 rfl rfl rfl (op_move rfl rfl ?_)
    refine AOps.st 23 rfl rfl rfl (op_extract rfl rfl rfl ?_)
    refine AOps.st 24 rfl rfl rfl (op_extract rfl rfl rfl ?_)
    refine AOps.st 11 rfl rfl rfl (op_assign rfl rfl ?_)
    refine AOps.st 12 rfl rfl rfl (op_assign rfl rfl ?_)
    refine AOps.nil ?_
    refine go_code ?_
    refine c_seq ?_
    refine c_region ?_
    refine AOps.st 25 rfl rfl rfl (op_move rfl rfl ?_)
    refine AOps.st 26 rfl rfl rfl (op_move rfl rfl ?_)
    refine AOps.st 27 rfl rfl rfl (op_move rfl rfl ?_)
    refine AOps.st 28 rfl rfl rfl (op_move rfl rfl ?_)
    refine AOps.gt 29 rfl rfl rfl rfl rfl (op_move rfl rfl ?_)
    refine AOps.st 30 rfl rfl rfl (op_pick rfl rfl rfl ?_)
    refine AOps.st 6 rfl rfl rfl (op_assign rfl rfl ?_)
    refine AOps.st 7 rfl rfl rfl (op_assign rfl rfl ?_)
    refine AOps.st 8 rfl rfl rfl (op_assign rfl rfl ?_)
    refine AOps.nil ?_
    refine go_code ?_
    refine c_ret ?_
    exact out_ttt rfl rfl rfl rfl (Le.refl _) (by first | exact MLe.none _ | exact MLe.refl _ | (repeat' (first | exact MLe.nil | exact MLe.refl _ | refine MLe.cons _ ?_ | refine MLe.drop _ ?_))) ⟨rfl, rfl⟩
set_option maxHeartbeats 4000000 in
set_option maxRecDepth 100000 in
theorem Compare_c (s t : ByteArray) : PCall Try.prog 56 [.val (.string s), .val (.string t)] (.val (.int .i64 (Lib.compareBytes s.data.toList t.data.toList))) := by
  have hC : PCall Try.prog 65 [.val (.string s), .val (.string t)] (.val (.int .i64 (Lib.compareBytes s.data.toList t.data.toList))) := by
    refine ACall.enter Try.func65 rfl (by kernel_rfl) rfl (Nat.le_of_ble_eq_true rfl) ?_
    refine c_start ?_
    refine c_seq ?_
    refine c_region ?_
    refine AOps.st 4 rfl rfl rfl (op_assign rfl rfl ?_)
    refine AOps.nil ?_
    refine go_code ?_
    refine c_seq ?_
    refine c_region ?_
    refine AOps.st 5 rfl rfl rfl (op_move rfl rfl ?_)
    refine AOps.st 6 rfl rfl rfl (op_move rfl rfl ?_)
    refine AOps.st 7 rfl rfl rfl (op_callx (vs := [.string s, .string t]) Try.func67 (by kernel_rfl) rfl (by kernel_rfl) rfl (xs := [.tmp 5, .tmp 6])  rfl rfl (fun w => Lib.run_compareString s t w) ?_)
    refine AOps.st 4 rfl rfl rfl (op_assign rfl rfl ?_)
    refine AOps.nil ?_
    refine go_code ?_
    refine c_ret ?_
    exact out_tmp rfl rfl (Le.refl _) (by first | exact MLe.none _ | exact MLe.refl _ | (repeat' (first | exact MLe.nil | exact MLe.refl _ | refine MLe.cons _ ?_ | refine MLe.drop _ ?_))) ⟨rfl, rfl⟩
  refine ACall.enter Try.func56 rfl (by kernel_rfl) rfl (Nat.le_of_ble_eq_true rfl) ?_
  refine c_start ?_
  refine c_seq ?_
  refine c_region ?_
  refine AOps.st 4 rfl rfl rfl (op_assign rfl rfl ?_)
  refine AOps.nil ?_
  refine go_code ?_
  refine c_seq ?_
  refine c_region ?_
  refine AOps.st 5 rfl rfl rfl (op_move rfl rfl ?_)
  refine AOps.st 6 rfl rfl rfl (op_move rfl rfl ?_)
  refine AOps.st 7 rfl rfl rfl (op_callp (xs := [.tmp 5, .tmp 6]) rfl rfl (hC) (by first | exact Les.refl _ | (repeat' (first | exact Les.refl _ | refine Les.cons ?_ ?_ | exact Le.refl _ | exact Le.own _ _ _ | exact Le.nil _ | refine Le.agg ?_))) ?_)
  refine AOps.st 4 rfl rfl rfl (op_assign rfl rfl ?_)
  refine AOps.nil ?_
  refine go_code ?_
  refine c_ret ?_
  exact out_tmp rfl rfl (Le.refl _) (by first | exact MLe.none _ | exact MLe.refl _ | (repeat' (first | exact MLe.nil | exact MLe.refl _ | refine MLe.cons _ ?_ | refine MLe.drop _ ?_))) ⟨rfl, rfl⟩
noncomputable def ordV (H : List HO) (x y : Int) : Int := Lib.compareBytes (orE (getT H x)).data.toList (orE (getT H y)).data.toList
set_option maxHeartbeats 4000000 in
set_option maxRecDepth 100000 in
theorem Order_c (b : Nat) (sz : Int) (H : List HO) (M : Mem) (hM : HeapAt b sz H M) (h : 0 < sz) (hH : ∀ o ∈ H, o.ok) (hu : used H ≤ 1000000) (x y : Int) (h0 : 0 ≤ x) (h1 : x ≤ 18446744073709551615) (h2 : 0 ≤ y) (h3 : y ≤ 18446744073709551615) : KCall Try.prog 34 [.ptr b 0, .val (.int .u64 x), .val (.int .u64 y)] M (.tup [.val (.int .i64 (if (getT H x).isSome && (getT H y).isSome then ordV H x y else 0)), .val (.bool ((getT H x).isSome && (getT H y).isSome))]) := by
  have hT := two_c b sz H M hM h hH hu x y h0 h1 h2 h3
  have hC := Compare_c (orE (getT H x)) (orE (getT H y))
  obtain ⟨r0, r1, r2, rfl⟩ := hM.three
  unfold ordV
  cases hb : (getT H x).isSome && (getT H y).isSome with
  | false =>
    rw [hb] at hT
    refine ACall.enter Try.func34 rfl (by kernel_rfl) rfl (Nat.le_of_ble_eq_true rfl) ?_
    refine c_start ?_
    refine c_seq ?_
    refine c_region ?_
    refine AOps.st 6 rfl rfl rfl (op_assign rfl rfl ?_)
    refine AOps.st 7 rfl rfl rfl (op_assign rfl rfl ?_)
    refine AOps.nil ?_
    refine go_code ?_
    refine c_seq ?_
    refine c_region ?_
    refine AOps.st 12 rfl rfl rfl (op_move rfl rfl ?_)
    refine AOps.st 13 rfl rfl rfl (op_move rfl rfl ?_)
    refine AOps.st 14 rfl rfl rfl (op_move rfl rfl ?_)
    refine AOps.st 15 rfl rfl rfl (op_callk (xs := [.tmp 12, .tmp 13, .tmp 14]) [0,0,0] rfl rfl rfl (hT) (by first | exact Les.refl _ | (repeat' (first | exact Les.refl _ | refine Les.cons ?_ ?_ | exact Le.refl _ | exact Le.own _ _ _ | exact Le.nil _ | refine Le.agg ?_))) ?_)
    refine AOps.st 11 rfl rfl rfl (op_move rfl rfl ?_)
    refine AOps.st 16 rfl rfl rfl (op_extract rfl rfl rfl ?_)
    refine AOps.st 17 rfl rfl rfl (op_extract rfl rfl rfl ?_)
    refine AOps.st 18 rfl rfl rfl (op_extract rfl rfl rfl ?_)
    refine AOps.st 8 rfl rfl rfl (op_assign rfl rfl ?_)
    refine AOps.st 9 rfl rfl rfl (op_assign rfl rfl ?_)
    refine AOps.st 10 rfl rfl rfl (op_assign rfl rfl ?_)
    refine AOps.nil ?_
    refine go_code ?_
    refine c_seq ?_
    refine c_seq ?_
    refine c_region ?_
    refine AOps.st 19 rfl rfl rfl (op_move rfl rfl ?_)
    refine AOps.st 20 rfl rfl rfl (op_notc rfl rfl ?_); intro c20 h20
    try replace h20 := nott h20 h18
    refine AOps.nil ?_
    refine go_code ?_
    rcases bool_split h20 with ⟨rfl, g20⟩ | ⟨rfl, g20⟩
    · refine c_cond_f rfl ?_
      refine c_skip ?_
      refine go_code ?_
      refine c_seq ?_
      exact absurd g20 (by simp)
    · refine c_cond_t rfl ?_
      refine c_seq ?_
      refine c_region ?_
      refine AOps.st 6 rfl rfl rfl (op_assign rfl rfl ?_)
      refine AOps.st 7 rfl rfl rfl (op_assign rfl rfl ?_)
      refine AOps.nil ?_
      refine go_code ?_
      refine c_ret ?_
      exact out_tt rfl rfl rfl (Le.refl _) (by first | exact MLe.none _ | exact MLe.refl _ | (repeat' (first | exact MLe.nil | exact MLe.refl _ | refine MLe.cons _ ?_ | refine MLe.drop _ ?_))) ⟨rfl, rfl⟩
  | true =>
    rw [hb] at hT
    refine ACall.enter Try.func34 rfl (by kernel_rfl) rfl (Nat.le_of_ble_eq_true rfl) ?_
    refine c_start ?_
    refine c_seq ?_
    refine c_region ?_
    refine AOps.st 6 rfl rfl rfl (op_assign rfl rfl ?_)
    refine AOps.st 7 rfl rfl rfl (op_assign rfl rfl ?_)
    refine AOps.nil ?_
    refine go_code ?_
    refine c_seq ?_
    refine c_region ?_
    refine AOps.st 12 rfl rfl rfl (op_move rfl rfl ?_)
    refine AOps.st 13 rfl rfl rfl (op_move rfl rfl ?_)
    refine AOps.st 14 rfl rfl rfl (op_move rfl rfl ?_)
    refine AOps.st 15 rfl rfl rfl (op_callk (xs := [.tmp 12, .tmp 13, .tmp 14]) [0,0,0] rfl rfl rfl (hT) (by first | exact Les.refl _ | (repeat' (first | exact Les.refl _ | refine Les.cons ?_ ?_ | exact Le.refl _ | exact Le.own _ _ _ | exact Le.nil _ | refine Le.agg ?_))) ?_)
    refine AOps.st 11 rfl rfl rfl (op_move rfl rfl ?_)
    refine AOps.st 16 rfl rfl rfl (op_extract rfl rfl rfl ?_)
    refine AOps.st 17 rfl rfl rfl (op_extract rfl rfl rfl ?_)
    refine AOps.st 18 rfl rfl rfl (op_extract rfl rfl rfl ?_)
    refine AOps.st 8 rfl rfl rfl (op_assign rfl rfl ?_)
    refine AOps.st 9 rfl rfl rfl (op_assign rfl rfl ?_)
    refine AOps.st 10 rfl rfl rfl (op_assign rfl rfl ?_)
    refine AOps.nil ?_
    refine go_code ?_
    refine c_seq ?_
    refine c_seq ?_
    refine c_region ?_
    refine AOps.st 19 rfl rfl rfl (op_move rfl rfl ?_)
    refine AOps.st 20 rfl rfl rfl (op_notc rfl rfl ?_); intro c20 h20
    try replace h20 := nott h20 h18
    refine AOps.nil ?_
    refine go_code ?_
    rcases bool_split h20 with ⟨rfl, g20⟩ | ⟨rfl, g20⟩
    · refine c_cond_f rfl ?_
      refine c_skip ?_
      refine go_code ?_
      refine c_seq ?_
      refine c_region ?_
      refine AOps.st 21 rfl rfl rfl (op_move rfl rfl ?_)
      refine AOps.st 22 rfl rfl rfl (op_move rfl rfl ?_)
      refine AOps.st 23 rfl rfl rfl (op_callp (xs := [.tmp 21, .tmp 22]) rfl rfl (hC) (by first | exact Les.refl _ | (repeat' (first | exact Les.refl _ | refine Les.cons ?_ ?_ | exact Le.refl _ | exact Le.own _ _ _ | exact Le.nil _ | refine Le.agg ?_))) ?_)
      refine AOps.st 6 rfl rfl rfl (op_assign rfl rfl ?_)
      refine AOps.st 7 rfl rfl rfl (op_assign rfl rfl ?_)
      refine AOps.nil ?_
      refine go_code ?_
      refine c_ret ?_
      exact out_tt rfl rfl rfl (Le.refl _) (by first | exact MLe.none _ | exact MLe.refl _ | (repeat' (first | exact MLe.nil | exact MLe.refl _ | refine MLe.cons _ ?_ | refine MLe.drop _ ?_))) ⟨rfl, rfl⟩
    · refine c_cond_t rfl ?_
      refine c_seq ?_
      exact absurd g20 (by simp)
/-- what two texts, one behind the other, come to -/
def CatR (sz : Int) (H : List HO) (x y : Int) (ok : Bool) (w : Int) (H' : List HO) : Prop :=
  ((getT H x).isSome && (getT H y).isSome) = true ∧ AllocR sz H (textO (orE (getT H x) ++ orE (getT H y))) ok w H' ∨ ((getT H x).isSome && (getT H y).isSome) = false ∧ ok = false ∧ w = 0 ∧ H' = H
set_option maxHeartbeats 4000000 in
set_option maxRecDepth 100000 in
theorem Cat_c (b : Nat) (sz : Int) (H : List HO) (M : Mem) (hM : HeapAt b sz H M) (h : 0 < sz) (hs : sz ≤ 16777216) (hH : ∀ o ∈ H, o.ok) (hu : used H ≤ 1000000) (x y : Int) (h0 : 0 ≤ x) (h1 : x ≤ 18446744073709551615) (h2 : 0 ≤ y) (h3 : y ≤ 18446744073709551615) : ACall Try.prog 35 [.ptr b 0, .val (.int .u64 x), .val (.int .u64 y)] M (fun v M' => ∃ ok w H', CatR sz H x y ok w H' ∧ v = .tup [.val (.int .u64 w), .val (.bool ok)] ∧ HeapAt b sz H' M') := by
  have hT := two_c b sz H M hM h hH hu x y h0 h1 h2 h3
  have hsx := getT_size (w := x) hH
  have hsy := getT_size (w := y) hH
  have hP := Put_c b sz H M hM h hs (by omega) (orE (getT H x) ++ orE (getT H y)) (by rw [ByteArray.size_append]; omega)
  unfold CatR
  have hM0 := hM
  obtain ⟨r0, r1, r2, rfl⟩ := hM.three
  cases hb : (getT H x).isSome && (getT H y).isSome with
  | false =>
    rw [hb] at hT
    refine ACall.enter Try.func35 rfl (by kernel_rfl) rfl (Nat.le_of_ble_eq_true rfl) ?_
    refine c_start ?_
    refine c_seq ?_
    refine c_region ?_
    refine AOps.st 6 rfl rfl rfl (op_assign rfl rfl ?_)
    refine AOps.st 7 rfl rfl rfl (op_assign rfl rfl ?_)
    refine AOps.nil ?_
    refine go_code ?_
    refine c_seq ?_
    refine c_region ?_
    refine AOps.st 12 rfl rfl rfl (op_move rfl rfl ?_)
    refine AOps.st 13 rfl rfl rfl (op_move rfl rfl ?_)
    refine AOps.st 14 rfl rfl rfl (op_move rfl rfl ?_)
    refine AOps.st 15 rfl rfl rfl (op_callk (xs := [.tmp 12, .tmp 13, .tmp 14]) [0,0,0] rfl rfl rfl (hT) (by first | exact Les.refl _ | (repeat' (first | exact Les.refl _ | refine Les.cons ?_ ?_ | exact Le.refl _ | exact Le.own _ _ _ | exact Le.nil _ | refine Le.agg ?_))) ?_)
    refine AOps.st 11 rfl rfl rfl (op_move rfl rfl ?_)
    refine AOps.st 16 rfl rfl rfl (op_extract rfl rfl rfl ?_)
    refine AOps.st 17 rfl rfl rfl (op_extract rfl rfl rfl ?_)
    refine AOps.st 18 rfl rfl rfl (op_extract rfl rfl rfl ?_)
    refine AOps.st 8 rfl rfl rfl (op_assign rfl rfl ?_)
    refine AOps.st 9 rfl rfl rfl (op_assign rfl rfl ?_)
    refine AOps.st 10 rfl rfl rfl (op_assign rfl rfl ?_)
    refine AOps.nil ?_
    refine go_code ?_
    refine c_seq ?_
    refine c_seq ?_
    refine c_region ?_
    refine AOps.st 19 rfl rfl rfl (op_move rfl rfl ?_)
    refine AOps.st 20 rfl rfl rfl (op_notc rfl rfl ?_); intro c20 h20
    try replace h20 := nott h20 h18
    refine AOps.nil ?_
    refine go_code ?_
    rcases bool_split h20 with ⟨rfl, g20⟩ | ⟨rfl, g20⟩
    · refine c_cond_f rfl ?_
      refine c_skip ?_
      refine go_code ?_
      refine c_seq ?_
      exact absurd g20 (by simp)
    · refine c_cond_t rfl ?_
      refine c_seq ?_
      refine c_region ?_
      refine AOps.st 6 rfl rfl rfl (op_assign rfl rfl ?_)
      refine AOps.st 7 rfl rfl rfl (op_assign rfl rfl ?_)
      refine AOps.nil ?_
      refine go_code ?_
      refine c_ret ?_
      exact out_tt rfl rfl rfl (Le.refl _) (MLe.refl _) ⟨_, _, _, .inr ⟨rfl, rfl, rfl, rfl⟩, rfl, hM0⟩
  | true =>
    rw [hb] at hT
    refine ACall.enter Try.func35 rfl (by kernel_rfl) rfl (Nat.le_of_ble_eq_true rfl) ?_
    refine c_start ?_
    refine c_seq ?_
    refine c_region ?_
    refine AOps.st 6 rfl rfl rfl (op_assign rfl rfl ?_)
    refine AOps.st 7 rfl rfl rfl (op_assign rfl rfl ?_)
    refine AOps.nil ?_
    refine go_code ?_
    refine c_seq ?_
    refine c_region ?_
    refine AOps.st 12 rfl rfl rfl (op_move rfl rfl ?_)
    refine AOps.st 13 rfl rfl rfl (op_move rfl rfl ?_)
    refine AOps.st 14 rfl rfl rfl (op_move rfl rfl ?_)
    refine AOps.st 15 rfl rfl rfl (op_callk (xs := [.tmp 12, .tmp 13, .tmp 14]) [0,0,0] rfl rfl rfl (hT) (by first | exact Les.refl _ | (repeat' (first | exact Les.refl _ | refine Les.cons ?_ ?_ | exact Le.refl _ | exact Le.own _ _ _ | exact Le.nil _ | refine Le.agg ?_))) ?_)
    refine AOps.st 11 rfl rfl rfl (op_move rfl rfl ?_)
    refine AOps.st 16 rfl rfl rfl (op_extract rfl rfl rfl ?_)
    refine AOps.st 17 rfl rfl rfl (op_extract rfl rfl rfl ?_)
    refine AOps.st 18 rfl rfl rfl (op_extract rfl rfl rfl ?_)
    refine AOps.st 8 rfl rfl rfl (op_assign rfl rfl ?_)
    refine AOps.st 9 rfl rfl rfl (op_assign rfl rfl ?_)
    refine AOps.st 10 rfl rfl rfl (op_assign rfl rfl ?_)
    refine AOps.nil ?_
    refine go_code ?_
    refine c_seq ?_
    refine c_seq ?_
    refine c_region ?_
    refine AOps.st 19 rfl rfl rfl (op_move rfl rfl ?_)
    refine AOps.st 20 rfl rfl rfl (op_notc rfl rfl ?_); intro c20 h20
    try replace h20 := nott h20 h18
    refine AOps.nil ?_
    refine go_code ?_
    rcases bool_split h20 with ⟨rfl, g20⟩ | ⟨rfl, g20⟩
    · refine c_cond_f rfl ?_
      refine c_skip ?_
      refine go_code ?_
      refine c_seq ?_
      refine c_region ?_
      refine AOps.st 21 rfl rfl rfl (op_move rfl rfl ?_)
      refine AOps.st 22 rfl rfl rfl (op_move rfl rfl ?_)
      refine AOps.st 23 rfl rfl rfl (op_move rfl rfl ?_)
      refine AOps.st 24 rfl rfl rfl (op_sadd rfl rfl rfl (by omega) ?_)
      refine AOps.st 25 rfl rfl rfl (op_callat [0,0,0] (xs := [.tmp 21, .tmp 24])  rfl rfl rfl hP (by first | exact Les.refl _ | (repeat' (first | exact Les.refl _ | refine Les.cons ?_ ?_ | exact Le.refl _ | exact Le.own _ _ _ | exact Le.nil _ | refine Le.agg ?_))) ?_)
      rintro v1 M1 ⟨ok, w, H', hr, rfl, hM'⟩
      refine AOps.st 26 rfl rfl rfl (op_extract rfl rfl rfl ?_)
      refine AOps.st 27 rfl rfl rfl (op_extract rfl rfl rfl ?_)
      refine AOps.st 6 rfl rfl rfl (op_assign rfl rfl ?_)
      refine AOps.st 7 rfl rfl rfl (op_assign rfl rfl ?_)
      refine AOps.nil ?_
      refine go_code ?_
      refine c_ret ?_
      exact out_tt (M' := M1) rfl rfl rfl (Le.refl _) (MLe.pre _ _) ⟨ok, w, H', .inl ⟨rfl, hr⟩, rfl, hM'⟩
    · refine c_cond_t rfl ?_
      refine c_seq ?_
      exact absurd g20 (by simp)
end Go.Proofs.Ytecpnlhjjmcllaa
