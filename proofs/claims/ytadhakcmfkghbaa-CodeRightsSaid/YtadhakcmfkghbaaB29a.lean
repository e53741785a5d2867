/- code.writer: signed, atom, atoms -/
import Derived.Test.YtadhakcmfkghbaaB29z
namespace Go.Proofs.Ytadhakcmfkghbaa
open Go.RowKit
def zz (n : Int) : Nat := if 0 ≤ n then (2 * n).toNat else (-2 * n - 1).toNat
theorem u64wrap (x : Int) : IntKind.u64.wrap x = x % 18446744073709551616 := by
  unfold IntKind.wrap
  simp [IntKind.bits, IntKind.signed]
theorem xor0 (a : Int) (h0 : 0 ≤ a) (h1 : a < 18446744073709551616) : bitsOf .xor .u64 a 0 = a := by
  unfold bitsOf
  rw [u64wrap]
  simp only [show BitVec.ofInt IntKind.u64.bits 0 = 0#_ from rfl, BitVec.xor_zero, BitVec.toNat_ofInt]
  show ((a % (2 ^ 64 : Nat)).toNat : Int) % _ = a
  omega
theorem xor1 (a : Int) (h0 : 0 ≤ a) (h1 : a < 18446744073709551616) : bitsOf .xor .u64 a 18446744073709551615 = 18446744073709551615 - a := by
  unfold bitsOf
  rw [u64wrap]
  have e : BitVec.ofInt 64 18446744073709551615 = BitVec.allOnes 64 := by decide
  have e2 : (BitVec.ofInt 64 a ^^^ BitVec.allOnes 64).toNat = 2 ^ 64 - 1 - (a % (2 ^ 64 : Nat)).toNat := by
    rw [BitVec.xor_allOnes, BitVec.toNat_not, BitVec.toNat_ofInt]
  show (((BitVec.ofInt 64 a ^^^ BitVec.ofInt 64 18446744073709551615 : BitVec 64).toNat : Nat) : Int) % _ = _
  rw [e, e2]
  omega
theorem zz_eq (n : Int) (h : I64 n) : bitsOf .xor .u64 (IntKind.u64.wrap (IntKind.u64.wrap n * 2 ^ min (1 : Int).toNat IntKind.u64.bits)) (IntKind.u64.wrap (n / 2 ^ min (63 : Int).toNat IntKind.i64.bits)) = ((zz n : Nat) : Int) := by
  have e1 : (2 : Int) ^ min (1 : Int).toNat IntKind.u64.bits = 2 := by decide
  have e2 : (2 : Int) ^ min (63 : Int).toNat IntKind.i64.bits = 9223372036854775808 := by decide
  rw [e1, e2, u64wrap, u64wrap, u64wrap]
  unfold zz
  obtain ⟨h0, h1⟩ := h
  by_cases q : 0 ≤ n
  · rw [if_pos q, show n / 9223372036854775808 % 18446744073709551616 = 0 by omega, xor0 _ (by omega) (by omega)]; omega
  · rw [if_neg q, show n / 9223372036854775808 % 18446744073709551616 = 18446744073709551615 by omega, xor1 _ (by omega) (by omega)]; omega
theorem zz_lt {n : Int} (h : I64 n) : zz n < 18446744073709551616 := by
  unfold zz; obtain ⟨h0, h1⟩ := h; split <;> omega
set_option maxHeartbeats 4000000 in
set_option maxRecDepth 100000 in
theorem signed_w (n : Int) (h : I64 n) : Writes 52 (fun b => [.ptr b 0, .val (.int .i64 n)]) (num (zz n)) := by
  intro b bs M hM hb
  have H := number_w (zz n) (zz_lt h) b bs M hM hb
  have hz := zz_eq n h
  clear h
  refine ACall.enter Try.func52 rfl (by kernel_rfl) rfl (Nat.le_of_ble_eq_true rfl) ?_
  refine c_start ?_
  refine c_region ?_
  refine AOps.st 4 rfl rfl rfl (op_move rfl rfl ?_)
  refine AOps.st 5 rfl rfl rfl (op_move rfl rfl ?_)
  first | (refine AOps.st 6 rfl rfl rfl (op_convert rfl tu_2 tu_102 rfl (IntWalk.u64_in _ (by omega)) ?_)) | (refine AOps.st 6 rfl rfl rfl (op_convert rfl tu_2 tu_102 rfl rfl ?_))
  refine AOps.st 7 rfl rfl rfl (op_shl rfl rfl rfl (by omega) (rfl) ?_)
  refine AOps.st 8 rfl rfl rfl (op_move rfl rfl ?_)
  refine AOps.st 9 rfl rfl rfl (op_shr rfl rfl rfl (by omega) (rfl) ?_)
  first | (refine AOps.st 10 rfl rfl rfl (op_convert rfl tu_2 tu_102 rfl (IntWalk.u64_in _ (by omega)) ?_)) | (refine AOps.st 10 rfl rfl rfl (op_convert rfl tu_2 tu_102 rfl rfl ?_))
  refine AOps.st 11 rfl rfl rfl (op_bits (by simp) rfl rfl rfl (hz) ?_)
  refine AOps.st 12 rfl rfl rfl (op_callm (xs := [.tmp 4, .tmp 11])  [] rfl rfl rfl H (Les.refl _) (fun v12 M12 h12 => ?_))
  refine AOps.nil ?_
  refine go_end ?_
  exact out_none rfl (MLe.refl _) h12
def atomN (k n : Int) : List Int := if k = 1 then num (zz n) else num n.toNat
theorem atomN_1 {k n : Int} (h : k = 1) : atomN k n = num (zz n) := by unfold atomN; rw [if_pos h]
theorem atomN_2 {k n : Int} (h : ¬ k = 1) : atomN k n = num n.toNat := by unfold atomN; rw [if_neg h]
def atomB (a : Ato) : List Int := num a.k.toNat ++ atomN a.k a.n
theorem wseq {b : Nat} {bs x y : List Int} {M : Mem} (h : WM b (bs ++ x ++ y) M) : WM b (bs ++ (x ++ y)) M := by rwa [← List.append_assoc]
set_option maxHeartbeats 4000000 in
set_option maxRecDepth 100000 in
theorem atom_w (a : Ato) (h1 : 1 ≤ a.k) (hL : a.Lim) (h2 : a.k ≠ 1 → 0 ≤ a.n) : Writes 70 (fun b => [.ptr b 0, .agg a.cells]) (atomB a) := by
  intro b bs M hM hb
  obtain ⟨k, n⟩ := a
  obtain ⟨⟨_, hk⟩, hn⟩ := hL
  simp only [Ato.k, Ato.n, atomB, List.length_append] at *
  have H1 := int_w k.toNat (by omega) b bs M hM (by omega)
  rw [show ((k.toNat : Nat) : Int) = k by omega] at H1
  refine ACall.enter Try.func70 rfl (by kernel_rfl) rfl (Nat.le_of_ble_eq_true rfl) ?_
  refine c_start ?_
  refine c_seq ?_
  refine c_region ?_
  refine AOps.st 3 rfl rfl rfl (op_boxc (cs' := [_, _]) rfl rfl rfl rfl ?_)
  refine AOps.nil ?_
  refine go_code ?_
  refine c_seq ?_
  refine c_region ?_
  refine AOps.st 4 rfl rfl rfl (op_move rfl rfl ?_)
  refine AOps.st 5 rfl rfl rfl (op_fieldAddr_c rfl tf_41_0 rfl rfl ?_)
  refine AOps.st 6 rfl rfl rfl (op_load_c1 rfl ta_3 rfl rfl ?_)
  refine AOps.st 7 rfl rfl rfl (op_callm (xs := [.tmp 4, .tmp 6])  [] rfl rfl rfl H1 (Les.refl _) (fun v7 M7 h7 => ?_))
  refine AOps.nil ?_
  refine go_code ?_
  refine c_seq ?_
  refine c_region ?_
  refine AOps.st 8 rfl rfl rfl (op_fieldAddr_c rfl tf_41_0 rfl rfl ?_)
  refine AOps.st 9 rfl rfl rfl (op_load_c1 rfl ta_3 rfl rfl ?_)
  refine AOps.st 10 rfl rfl rfl (op_eql rfl rfl rfl ?_); intro c10 h10
  refine AOps.nil ?_
  refine go_code ?_
  rcases bool_split h10 with ⟨rfl, g10⟩ | ⟨rfl, g10⟩
  · refine c_cond_f rfl ?_
    rw [atomN_2 g10] at hb
    have hnn := h2 g10
    have H2 := int_w n.toNat (by have := hn.2; omega) b _ M7 h7 (by rw [List.length_append]; omega)
    rw [show ((n.toNat : Nat) : Int) = n by omega] at H2
    refine c_region ?_
    refine AOps.st 15 rfl rfl rfl (op_move rfl rfl ?_)
    refine AOps.st 16 rfl rfl rfl (op_fieldAddr_c rfl tf_41_1 rfl rfl ?_)
    refine AOps.st 17 rfl rfl rfl (op_load_c1 rfl ta_2 rfl rfl ?_)
    refine AOps.st 18 rfl rfl rfl (op_callm (xs := [.tmp 15, .tmp 17])  [] rfl rfl rfl H2 (Les.refl _) (fun v18 M18 h18 => ?_))
    refine AOps.nil ?_
    refine go_end ?_
    first | exact out_none rfl (MLe.refl _) (by rw [atomN_1 g10]; exact wseq h14) | exact out_none rfl (MLe.refl _) (by rw [atomN_2 g10]; exact wseq h18)
  · refine c_cond_t rfl ?_
    rw [atomN_1 g10] at hb
    have H2 := signed_w n hn b _ M7 h7 (by rw [List.length_append]; omega)
    refine c_region ?_
    refine AOps.st 11 rfl rfl rfl (op_move rfl rfl ?_)
    refine AOps.st 12 rfl rfl rfl (op_fieldAddr_c rfl tf_41_1 rfl rfl ?_)
    refine AOps.st 13 rfl rfl rfl (op_load_c1 rfl ta_2 rfl rfl ?_)
    refine AOps.st 14 rfl rfl rfl (op_callm (xs := [.tmp 11, .tmp 13])  [] rfl rfl rfl H2 (Les.refl _) (fun v14 M14 h14 => ?_))
    refine AOps.nil ?_
    refine go_end ?_
    first | exact out_none rfl (MLe.refl _) (by rw [atomN_1 g10]; exact wseq h14) | exact out_none rfl (MLe.refl _) (by rw [atomN_2 g10]; exact wseq h18)
def atomsB (l : List Ato) : List Int := (l.map atomB).flatten
theorem atomsB_take {l : List Ato} {i : Nat} {x : Ato} (h : l[i]? = some x) : atomsB (l.take (i + 1)) = atomsB (l.take i) ++ atomB x := by
  unfold atomsB; rw [List.take_add_one, h]; simp
theorem atomsB_le (l : List Ato) (i : Nat) : (atomsB (l.take i)).length ≤ (atomsB l).length := by
  have : atomsB l = atomsB (l.take i) ++ atomsB (l.drop i) := by
    unfold atomsB; rw [← List.flatten_append, ← List.map_append, List.take_append_drop]
  rw [this, List.length_append]; omega
set_option maxHeartbeats 4000000 in
set_option maxRecDepth 100000 in
theorem atoms_w (l : List Ato) (h : ∀ a ∈ l, 1 ≤ a.k ∧ a.Lim ∧ (a.k ≠ 1 → 0 ≤ a.n)) : Writes 53 (fun b => [.ptr b 0, .seq 2 (Ato.cellss l)]) (atomsB l) := by
  intro b bs M hM hb
  have hl := Ato.cellss_len l
  refine ACall.enter Try.func53 rfl (by kernel_rfl) rfl (Nat.le_of_ble_eq_true rfl) ?_
  refine c_start ?_
  refine c_lens (t := 1) rfl (.seq _ _) (fun hmax => ?_)
  refine c_seq ?_
  refine c_region ?_
  refine AOps.st 6 rfl rfl rfl (op_move rfl rfl ?_)
  refine AOps.st 7 rfl rfl rfl (op_len rfl tu_42 rfl (.seq _ _) (fun n7 => ?_))
  refine AOps.st 8 rfl rfl rfl (op_move rfl rfl ?_)
  refine AOps.nil ?_
  refine go_code ?_
  refine c_block ?_
  apply c_loopk [1, 2, 3, 4, 5, 8, 9, 10, 11, 12, 13, 14, 15] (σ := Nat × Mem) (fun zz => match zz with | (i, M) => [(8, .val (.int .i64 i))]) (fun zz => match zz with | (i, M) => M) (fun zz => match zz with | (i, M) => i ≤ l.length ∧ WM b (bs ++ atomsB (l.take i)) M) (fun zz => match zz with | (i, M) => l.length - i) ((0, M))
  · repeat' (first | exact Drops.nil | apply Drops.keep rfl | apply Drops.skip rfl)
  · exact ⟨by omega, by simpa [atomsB] using hM⟩
  · exact (by repeat' (first | exact SLe.nil _ | refine SLe.cons rfl ?_ ?_ | exact Le.refl _ | exact Le.own _ _ _ | exact Le.nil _))
  · exact (by first | exact MLe.none _ | exact MLe.refl _ | (repeat' (first | exact MLe.nil | exact MLe.refl _ | refine MLe.cons _ ?_ | refine MLe.drop _ ?_)))
  rintro ⟨i, M⟩ hI
  try dsimp only [List.cons_append, List.nil_append] at hI ⊢
  obtain ⟨hi, hW⟩ := hI
  refine c_seq ?_
  refine c_region ?_
  refine AOps.st 9 rfl rfl rfl (op_lss rfl rfl rfl ?_); intro c9 h9
  refine AOps.nil ?_
  refine go_code ?_
  refine c_seq ?_
  rcases bool_split h9 with ⟨rfl, g9⟩ | ⟨rfl, g9⟩
  · refine c_cond_f rfl ?_
    refine c_exit ?_
    refine x_code ?_
    refine x_lp ?_
    refine x_here ?_
    refine go_end ?_
    refine out_none rfl (MLe.refl _) ?_
    rwa [List.take_of_length_le (by omega)] at hW
  · refine c_cond_t rfl ?_
    refine c_skip ?_
    refine go_code ?_
    refine c_seq ?_
    refine c_block ?_
    refine c_seq ?_
    obtain ⟨⟨yk, yn⟩, hxy⟩ := get_some (l := l) (i := i) (by first | omega | (simp at *; omega))
    have hcy := Ato.cellss_get hxy
    have hmy := List.mem_of_getElem? hxy
    have hat := atomsB_take hxy
    have hle := atomsB_le l (i + 1)
    rw [hat, List.length_append] at hle
    obtain ⟨q1, q2, q3⟩ := h _ hmy
    have HC := atom_w ⟨yk, yn⟩ q1 q2 q3 b _ M hW (by rw [List.length_append]; omega)
    rw [List.append_assoc, ← hat] at HC
    refine c_region ?_
    refine AOps.st 10 rfl rfl rfl (op_index rfl te_42 rfl (.seq _ _) rfl rfl (by assumption) ?_)
    first | (refine AOps.st 11 rfl rfl rfl (op_load_m (cs' := [_, _]) (i := 0) rfl ta_41 rfl rfl rfl rfl ?_)) | (refine AOps.st 11 rfl rfl rfl (op_load_m (cs' := [_, _]) (i := 1) rfl ta_41 rfl rfl rfl rfl ?_)) | (refine AOps.st 11 rfl rfl rfl (op_load_m (cs' := [_, _]) (i := 2) rfl ta_41 rfl rfl rfl rfl ?_)) | (refine AOps.st 11 rfl rfl rfl (op_load_m (cs' := [_, _]) (i := 3) rfl ta_41 rfl rfl rfl rfl ?_)) | (refine AOps.st 11 rfl rfl rfl (op_load_m (cs' := [_, _]) (i := 4) rfl ta_41 rfl rfl rfl rfl ?_)) | (refine AOps.st 11 rfl rfl rfl (op_load_m (cs' := [_, _]) (i := 5) rfl ta_41 rfl rfl rfl rfl ?_)) | (refine AOps.st 11 rfl rfl rfl (op_load_m (cs' := [_, _]) (i := 6) rfl ta_41 rfl rfl rfl rfl ?_)) | (refine AOps.st 11 rfl rfl rfl (op_load_m (cs' := [_, _]) (i := 7) rfl ta_41 rfl rfl rfl rfl ?_)) | (refine AOps.st 11 rfl rfl rfl (op_load_m (cs' := [_, _]) (i := 8) rfl ta_41 rfl rfl rfl rfl ?_)) | (refine AOps.st 11 rfl rfl rfl (op_load_m (cs' := [_, _]) (i := 9) rfl ta_41 rfl rfl rfl rfl ?_)) | (refine AOps.st 11 rfl rfl rfl (op_load_c (cs' := [_, _]) rfl ta_41 rfl rfl rfl ?_))
    refine AOps.st 5 rfl rfl rfl (op_alloce (cs' := [_, _]) rfl tz_41 rfl rfl ?_); intro b5
    refine AOps.st0 rfl rfl (op_store (cs' := [_, _]) (i := 0) rfl ts_41 rfl rfl rfl rfl rfl (Nat.le_of_ble_eq_true rfl) rfl ?_)
    refine AOps.nil ?_
    refine go_code ?_
    refine c_region ?_
    refine AOps.st 12 rfl rfl rfl (op_move rfl rfl ?_)
    refine AOps.st 13 rfl rfl rfl (op_load_m (cs' := [_, _]) (i := 0) rfl ta_41 rfl rfl rfl rfl ?_)
    refine AOps.st 14 rfl rfl rfl (op_callm (xs := [.tmp 12, .tmp 13])  [.loc b5 _] rfl rfl rfl HC (Les.refl _) (fun v14 M14 h14 => ?_))
    refine AOps.nil ?_
    refine go_blk ?_
    refine go_code ?_
    refine c_region ?_
    refine AOps.st 15 rfl rfl rfl (op_add rfl rfl rfl (IntWalk.i64_in _ (by omega)) ?_)
    refine AOps.st 8 rfl rfl rfl (op_move rfl rfl ?_)
    refine AOps.nil ?_
    refine go_lp ?_
    exact ⟨(i + 1, M14), ⟨by show i + 1 ≤ _; omega, h14⟩, by simp; omega, (by repeat' (first | exact SLe.nil _ | refine SLe.cons rfl ?_ ?_ | exact Le.refl _ | exact Le.own _ _ _ | exact Le.nil _)), (MLe.drop _ (MLe.refl _))⟩
end Go.Proofs.Ytadhakcmfkghbaa
