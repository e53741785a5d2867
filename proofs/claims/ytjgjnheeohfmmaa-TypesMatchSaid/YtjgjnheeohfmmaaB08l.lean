/- Letter of the program -/
import Derived.Test.YtjgjnheeohfmmaaTF
import Derived.Test.YtjgjnheeohfmmaaAX
import Derived.Test.YtjgjnheeohfmmaaPT
import Derived.Test.YtjgjnheeohfmmaaW01t
namespace Go.Proofs.Ytjgjnheeohfmmaa
open Go.RowKit
theorem TextA_c (n : Int) : PCall Try.prog 63 [.val (.int .i64 n)] (.val (.string (txt (W63 n)))) :=
  PCall.of_calls (vs := [.int .i64 n]) (enters_of Try.func63 (by kernel_rfl) rfl) (fun w => Text_c n w)
/-- the name of a variable -/
def letter (i : Int) : ByteArray := if i < 0 then ⟨#[]⟩ else if 26 ≤ i then Utf8.encode (97 + i % 26) ++ txt (W63 (i / 26)) else Utf8.encode (97 + i % 26)
theorem enc_size (x : Int) : (Utf8.encode x).size ≤ 4 := by
  unfold Utf8.encode
  simp only
  repeat' split
  all_goals simp [ByteArray.size]
theorem digs_le : ∀ (f u : Nat) (acc : List Int), (digs f u acc).length ≤ f + acc.length
  | 0, u, acc => by simp [digs]
  | f + 1, u, acc => by
    rw [digs]
    split
    · simp; omega
    · have := digs_le f (u / 10) ((48 + (u : Int) % 10) :: acc)
      simp at this ⊢
      omega
theorem txt_size (z : Int) : (txt z).size ≤ 21 := by
  unfold txt strOfNums
  split
  · have := digs_le 20 (-z).toNat []
    simp [ByteArray.size] at this ⊢
    omega
  · have := digs_le 20 z.toNat []
    simp [ByteArray.size] at this ⊢
    omega
set_option maxRecDepth 100000 in
theorem Letter_c (i : Int) (h1 : i ≤ 9223372036854775807) : PCall Try.prog 18 [.val (.int .i64 i)] (.val (.string (letter i))) := by
  have hE := enc_size (97 + i % 26)
  have hT := txt_size (W63 (i / 26))
  refine ACall.enter Try.func18 rfl (by kernel_rfl) rfl (Nat.le_of_ble_eq_true rfl) ?_
  refine c_start ?_
  refine c_seq ?_
  refine c_region ?_
  refine AOps.st 2 rfl rfl rfl (op_assign rfl rfl ?_)
  refine AOps.nil ?_
  refine go_code ?_
  refine c_seq ?_
  refine c_seq ?_
  refine c_region ?_
  refine AOps.st 4 rfl rfl rfl (op_move rfl rfl ?_)
  refine AOps.st 5 rfl rfl rfl (op_lss rfl rfl rfl ?_); intro c5 h5
  refine AOps.nil ?_
  refine go_code ?_
  rcases bool_split h5 with ⟨rfl, g5⟩ | ⟨rfl, g5⟩
  · refine c_cond_f rfl ?_
    refine c_skip ?_
    refine go_code ?_
    refine c_seq ?_
    refine c_region ?_
    refine AOps.st 6 rfl rfl rfl (op_move rfl rfl ?_)
    first | (refine AOps.st 7 rfl rfl rfl (op_rem rfl rfl rfl (by omega) (Int.tmod_eq_emod_of_nonneg (by omega)) ?_)) | (refine AOps.st 7 rfl rfl rfl (op_rem rfl rfl rfl (by omega) rfl ?_))
    first | (refine AOps.st 8 rfl rfl rfl (op_add rfl rfl rfl (IntWalk.i64_in _ (by omega)) ?_)) | (refine AOps.st 8 rfl rfl rfl (op_add rfl rfl rfl rfl ?_))
    first | (refine AOps.st 9 rfl rfl rfl (op_convert rfl tu_3 tu_21 rfl (wrap32 (by omega) (by omega)) ?_)) | (refine AOps.st 9 rfl rfl rfl (op_convert rfl tu_3 tu_21 rfl rfl ?_))
    refine AOps.st 10 rfl rfl rfl (op_runestr rfl tu_21 tu_9 rfl ?_)
    refine AOps.st 3 rfl rfl rfl (op_assign rfl rfl ?_)
    refine AOps.nil ?_
    refine go_code ?_
    refine c_seq ?_
    refine c_seq ?_
    refine c_region ?_
    refine AOps.st 11 rfl rfl rfl (op_move rfl rfl ?_)
    refine AOps.st 12 rfl rfl rfl (op_geq rfl rfl rfl ?_); intro c12 h12
    refine AOps.nil ?_
    refine go_code ?_
    rcases bool_split h12 with ⟨rfl, g12⟩ | ⟨rfl, g12⟩
    · refine c_cond_f rfl ?_
      refine c_skip ?_
      refine go_code ?_
      refine c_seq ?_
      refine c_region ?_
      refine AOps.st 18 rfl rfl rfl (op_move rfl rfl ?_)
      refine AOps.st 2 rfl rfl rfl (op_assign rfl rfl ?_)
      refine AOps.nil ?_
      refine go_code ?_
      refine c_ret ?_
      first | exact out_tmp rfl rfl (Le.refl _) (by first | exact MLe.none _ | exact MLe.refl _ | (repeat' (first | exact MLe.nil | exact MLe.refl _ | refine MLe.cons _ ?_ | refine MLe.drop _ ?_))) ⟨by rw [letter, if_neg g5, if_pos g12], rfl⟩ | exact out_tmp rfl rfl (Le.refl _) (by first | exact MLe.none _ | exact MLe.refl _ | (repeat' (first | exact MLe.nil | exact MLe.refl _ | refine MLe.cons _ ?_ | refine MLe.drop _ ?_))) ⟨by rw [letter, if_neg g5, if_neg g12], rfl⟩
    · refine c_cond_t rfl ?_
      refine c_region ?_
      refine AOps.st 13 rfl rfl rfl (op_move rfl rfl ?_)
      refine AOps.st 14 rfl rfl rfl (op_move rfl rfl ?_)
      first | (refine AOps.st 15 rfl rfl rfl (op_quo rfl rfl rfl (by omega) (IntWalk.i64_quo _ _ (by omega)) ?_)) | (refine AOps.st 15 rfl rfl rfl (op_quo rfl rfl rfl (by omega) rfl ?_))
      refine AOps.st 16 rfl rfl rfl (op_callp (xs := [.tmp 15]) rfl rfl (TextA_c (i / 26)) (by first | exact Les.refl _ | (repeat' (first | exact Les.refl _ | refine Les.cons ?_ ?_ | exact Le.refl _ | exact Le.own _ _ _ | exact Le.nil _ | refine Le.agg ?_))) ?_)
      refine AOps.st 17 rfl rfl rfl (op_sadd rfl rfl rfl (by omega) ?_)
      refine AOps.st 3 rfl rfl rfl (op_assign rfl rfl ?_)
      refine AOps.nil ?_
      refine go_code ?_
      refine c_seq ?_
      refine c_region ?_
      refine AOps.st 18 rfl rfl rfl (op_move rfl rfl ?_)
      refine AOps.st 2 rfl rfl rfl (op_assign rfl rfl ?_)
      refine AOps.nil ?_
      refine go_code ?_
      refine c_ret ?_
      first | exact out_tmp rfl rfl (Le.refl _) (by first | exact MLe.none _ | exact MLe.refl _ | (repeat' (first | exact MLe.nil | exact MLe.refl _ | refine MLe.cons _ ?_ | refine MLe.drop _ ?_))) ⟨by rw [letter, if_neg g5, if_pos g12], rfl⟩ | exact out_tmp rfl rfl (Le.refl _) (by first | exact MLe.none _ | exact MLe.refl _ | (repeat' (first | exact MLe.nil | exact MLe.refl _ | refine MLe.cons _ ?_ | refine MLe.drop _ ?_))) ⟨by rw [letter, if_neg g5, if_neg g12], rfl⟩
  · refine c_cond_t rfl ?_
    refine c_seq ?_
    refine c_region ?_
    refine AOps.st 2 rfl rfl rfl (op_assign rfl rfl ?_)
    refine AOps.nil ?_
    refine go_code ?_
    refine c_ret ?_
    exact out_tmp rfl rfl (Le.refl _) (by first | exact MLe.none _ | exact MLe.refl _ | (repeat' (first | exact MLe.nil | exact MLe.refl _ | refine MLe.cons _ ?_ | refine MLe.drop _ ?_))) ⟨by rw [letter, if_pos g5], rfl⟩
end Go.Proofs.Ytjgjnheeohfmmaa
