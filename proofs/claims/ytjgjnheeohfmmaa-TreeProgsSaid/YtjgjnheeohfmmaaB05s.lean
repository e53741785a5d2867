/- cognateref05.Texts, SameType, SameTypes; cognatelaw08.ints -/
import Derived.Test.YtjgjnheeohfmmaaTF
import Derived.Test.YtjgjnheeohfmmaaPT
namespace Go.Proofs.Ytjgjnheeohfmmaa
open Go.RowKit
/-- a bool that is false -/
theorem iff_f {p : Prop} (h : ¬ p) : (false = true ↔ p) := by simp [h]
theorem iff_t {p : Prop} (h : p) : (true = true ↔ p) := by simp [h]
set_option maxHeartbeats 4000000 in
set_option maxRecDepth 100000 in
theorem Texts_c (xs ys : List ByteArray) : BCall Try.prog 16 [.seq 1 (strs xs), .seq 1 (strs ys)] (xs = ys) := by
  have hlx := strs_len xs
  have hly := strs_len ys
  refine ACall.enter Try.func16 rfl (by kernel_rfl) rfl (Nat.le_of_ble_eq_true rfl) ?_
  refine c_start ?_
  refine c_lens (t := 0) rfl (.seq _ _) (fun hmax => ?_)
  refine c_seq ?_
  refine c_region ?_
  refine AOps.st 4 rfl rfl rfl (op_assign rfl rfl ?_)
  refine AOps.nil ?_
  refine go_code ?_
  refine c_seq ?_
  refine c_seq ?_
  refine c_region ?_
  refine AOps.st 6 rfl rfl rfl (op_move rfl rfl ?_)
  refine AOps.st 7 rfl rfl rfl (op_len rfl tu_27 rfl (.seq _ _) (fun n7 => ?_))
  refine AOps.st 8 rfl rfl rfl (op_move rfl rfl ?_)
  refine AOps.st 9 rfl rfl rfl (op_len rfl tu_27 rfl (.seq _ _) (fun n9 => ?_))
  refine AOps.st 10 rfl rfl rfl (op_neq rfl rfl rfl ?_); intro c10 h10
  refine AOps.nil ?_
  refine go_code ?_
  rcases bool_split h10 with ⟨rfl, g10⟩ | ⟨rfl, g10⟩
  · refine c_cond_f rfl ?_
    refine c_skip ?_
    refine go_code ?_
    refine c_seq ?_
    refine c_seq ?_
    refine c_region ?_
    refine AOps.st 5 rfl rfl rfl (op_assign rfl rfl ?_)
    refine AOps.nil ?_
    refine go_code ?_
    refine c_block ?_
    refine c_loop (σ := Nat) (fun zz => match zz with | i => [(0, .seq 1 (strs xs)), (1, .seq 1 (strs ys)), (5, .val (.int .i64 i))]) (fun zz => match zz with | i => []) (fun zz => match zz with | i => i ≤ xs.length ∧ Upto xs ys i) (fun zz => match zz with | i => xs.length - i) (0) ?_ ?_ ?_ ?_
    · exact ⟨by omega, Upto.zero _ _⟩
    · exact (by repeat' (first | exact SLe.nil _ | refine SLe.cons rfl ?_ ?_ | exact Le.refl _ | exact Le.own _ _ _ | exact Le.nil _))
    · exact (by first | exact MLe.none _ | exact MLe.refl _ | (repeat' (first | exact MLe.nil | exact MLe.refl _ | refine MLe.cons _ ?_ | refine MLe.drop _ ?_)))
    rintro i hI
    try dsimp only at hI ⊢
    obtain ⟨hi, hu⟩ := hI
    refine c_seq ?_
    refine c_seq ?_
    refine c_region ?_
    refine AOps.st 11 rfl rfl rfl (op_move rfl rfl ?_)
    refine AOps.st 12 rfl rfl rfl (op_move rfl rfl ?_)
    refine AOps.st 13 rfl rfl rfl (op_len rfl tu_27 rfl (.seq _ _) (fun n13 => ?_))
    refine AOps.st 14 rfl rfl rfl (op_lss rfl rfl rfl ?_); intro c14 h14
    refine AOps.nil ?_
    refine go_code ?_
    rcases bool_split h14 with ⟨rfl, g14⟩ | ⟨rfl, g14⟩
    · refine c_cond_f rfl ?_
      refine c_exit ?_
      refine x_code ?_
      refine x_lp ?_
      refine x_here ?_
      refine go_code ?_
      refine c_seq ?_
      refine c_region ?_
      refine AOps.st 4 rfl rfl rfl (op_assign rfl rfl ?_)
      refine AOps.nil ?_
      refine go_code ?_
      refine c_ret ?_
      exact out_tmp rfl rfl (Le.refl _) (by first | exact MLe.none _ | exact MLe.refl _ | (repeat' (first | exact MLe.nil | exact MLe.refl _ | refine MLe.cons _ ?_ | refine MLe.drop _ ?_))) ⟨⟨_, iff_t (hu.eq (by omega) (by omega)), rfl⟩, rfl⟩
    · refine c_cond_t rfl ?_
      refine c_skip ?_
      refine go_code ?_
      refine c_seq ?_
      refine c_block ?_
      refine c_seq ?_
      obtain ⟨x, hx⟩ := get_some (l := xs) (i := i) (by omega)
      obtain ⟨y, hy⟩ := get_some (l := ys) (i := i) (by omega)
      have hcx := strs_get hx
      have hcy := strs_get hy
      refine c_drawn tmix rfl ?_
      refine DOps.st 17 rfl rfl (op_move rfl rfl ⟨rfl, rfl⟩) ?_
      refine DOps.st 18 rfl rfl (op_move rfl rfl ⟨rfl, rfl⟩) ?_
      refine DOps.st 19 rfl rfl (op_index rfl te_27 rfl (.seq _ _) rfl rfl (by assumption) ⟨rfl, rfl⟩) ?_
      first | (refine DOps.st 20 rfl rfl (op_load_m1 (i := 0) rfl ta_9 rfl rfl rfl ⟨rfl, rfl⟩) ?_) | (refine DOps.st 20 rfl rfl (op_load_m1 (i := 1) rfl ta_9 rfl rfl rfl ⟨rfl, rfl⟩) ?_) | (refine DOps.st 20 rfl rfl (op_load_m1 (i := 2) rfl ta_9 rfl rfl rfl ⟨rfl, rfl⟩) ?_) | (refine DOps.st 20 rfl rfl (op_load_m1 (i := 3) rfl ta_9 rfl rfl rfl ⟨rfl, rfl⟩) ?_) | (refine DOps.st 20 rfl rfl (op_load_m1 (i := 4) rfl ta_9 rfl rfl rfl ⟨rfl, rfl⟩) ?_) | (refine DOps.st 20 rfl rfl (op_load_m1 (i := 5) rfl ta_9 rfl rfl rfl ⟨rfl, rfl⟩) ?_) | (refine DOps.st 20 rfl rfl (op_load_c1 rfl ta_9 rfl rfl ⟨rfl, rfl⟩) ?_)
      refine DOps.st 21 rfl rfl (op_move rfl rfl ⟨rfl, rfl⟩) ?_
      refine DOps.st 22 rfl rfl (op_move rfl rfl ⟨rfl, rfl⟩) ?_
      refine DOps.st 23 rfl rfl (op_index rfl te_27 rfl (.seq _ _) rfl rfl (by assumption) ⟨rfl, rfl⟩) ?_
      first | (refine DOps.st 24 rfl rfl (op_load_m1 (i := 0) rfl ta_9 rfl rfl rfl ⟨rfl, rfl⟩) ?_) | (refine DOps.st 24 rfl rfl (op_load_m1 (i := 1) rfl ta_9 rfl rfl rfl ⟨rfl, rfl⟩) ?_) | (refine DOps.st 24 rfl rfl (op_load_m1 (i := 2) rfl ta_9 rfl rfl rfl ⟨rfl, rfl⟩) ?_) | (refine DOps.st 24 rfl rfl (op_load_m1 (i := 3) rfl ta_9 rfl rfl rfl ⟨rfl, rfl⟩) ?_) | (refine DOps.st 24 rfl rfl (op_load_m1 (i := 4) rfl ta_9 rfl rfl rfl ⟨rfl, rfl⟩) ?_) | (refine DOps.st 24 rfl rfl (op_load_m1 (i := 5) rfl ta_9 rfl rfl rfl ⟨rfl, rfl⟩) ?_) | (refine DOps.st 24 rfl rfl (op_load_c1 rfl ta_9 rfl rfl ⟨rfl, rfl⟩) ?_)
      refine DOps.cm 25 rfl rfl (fun _ q => op_sneq rfl rfl rfl q) ?_; intro c25 h25
      show AGo _ _ _ _ _ _ _
      refine go_code ?_
      rcases bool_split h25 with ⟨rfl, g25⟩ | ⟨rfl, g25⟩
      · refine c_cond_f rfl ?_
        refine c_skip ?_
        refine go_blk ?_
        refine go_code ?_
        refine c_region ?_
        refine AOps.st 15 rfl rfl rfl (op_move rfl rfl ?_)
        refine AOps.st 16 rfl rfl rfl (op_add rfl rfl rfl (IntWalk.i64_in _ (by omega)) ?_)
        refine AOps.st 5 rfl rfl rfl (op_assign rfl rfl ?_)
        refine AOps.nil ?_
        refine go_lp ?_
        exact ⟨i + 1, ⟨by omega, hu.succ hx hy (by simpa using g25)⟩, by simp; omega, (by repeat' (first | exact SLe.nil _ | refine SLe.cons rfl ?_ ?_ | exact Le.refl _ | exact Le.own _ _ _ | exact Le.nil _)), (by first | exact MLe.none _ | exact MLe.refl _ | (repeat' (first | exact MLe.nil | exact MLe.refl _ | refine MLe.cons _ ?_ | refine MLe.drop _ ?_)))⟩
      · refine c_cond_t rfl ?_
        refine c_seq ?_
        refine c_region ?_
        refine AOps.st 4 rfl rfl rfl (op_assign rfl rfl ?_)
        refine AOps.nil ?_
        refine go_code ?_
        refine c_ret ?_
        exact out_tmp rfl rfl (Le.refl _) (by first | exact MLe.none _ | exact MLe.refl _ | (repeat' (first | exact MLe.nil | exact MLe.refl _ | refine MLe.cons _ ?_ | refine MLe.drop _ ?_))) ⟨⟨_, iff_f (at_ne hx hy g25), rfl⟩, rfl⟩
  · refine c_cond_t rfl ?_
    refine c_seq ?_
    refine c_region ?_
    refine AOps.st 4 rfl rfl rfl (op_assign rfl rfl ?_)
    refine AOps.nil ?_
    refine go_code ?_
    refine c_ret ?_
    exact out_tmp rfl rfl (Le.refl _) (by first | exact MLe.none _ | exact MLe.refl _ | (repeat' (first | exact MLe.nil | exact MLe.refl _ | refine MLe.cons _ ?_ | refine MLe.drop _ ?_))) ⟨⟨_, iff_f (len_ne (by omega)), rfl⟩, rfl⟩
set_option maxHeartbeats 4000000 in
set_option maxRecDepth 100000 in
theorem ints_c (xs ys : List Int) : BCall Try.prog 28 [.seq 1 (nums xs), .seq 1 (nums ys)] (xs = ys) := by
  have hlx := nums_len xs
  have hly := nums_len ys
  refine ACall.enter Try.func28 rfl (by kernel_rfl) rfl (Nat.le_of_ble_eq_true rfl) ?_
  refine c_start ?_
  refine c_lens (t := 0) rfl (.seq _ _) (fun hmax => ?_)
  refine c_seq ?_
  refine c_region ?_
  refine AOps.st 4 rfl rfl rfl (op_assign rfl rfl ?_)
  refine AOps.nil ?_
  refine go_code ?_
  refine c_seq ?_
  refine c_seq ?_
  refine c_region ?_
  refine AOps.st 6 rfl rfl rfl (op_move rfl rfl ?_)
  refine AOps.st 7 rfl rfl rfl (op_len rfl tu_47 rfl (.seq _ _) (fun n7 => ?_))
  refine AOps.st 8 rfl rfl rfl (op_move rfl rfl ?_)
  refine AOps.st 9 rfl rfl rfl (op_len rfl tu_47 rfl (.seq _ _) (fun n9 => ?_))
  refine AOps.st 10 rfl rfl rfl (op_neq rfl rfl rfl ?_); intro c10 h10
  refine AOps.nil ?_
  refine go_code ?_
  rcases bool_split h10 with ⟨rfl, g10⟩ | ⟨rfl, g10⟩
  · refine c_cond_f rfl ?_
    refine c_skip ?_
    refine go_code ?_
    refine c_seq ?_
    refine c_seq ?_
    refine c_region ?_
    refine AOps.st 11 rfl rfl rfl (op_move rfl rfl ?_)
    refine AOps.st 12 rfl rfl rfl (op_len rfl tu_47 rfl (.seq _ _) (fun n12 => ?_))
    refine AOps.st 13 rfl rfl rfl (op_move rfl rfl ?_)
    refine AOps.nil ?_
    refine go_code ?_
    refine c_block ?_
    refine c_loop (σ := Nat) (fun zz => match zz with | i => [(0, .seq 1 (nums xs)), (1, .seq 1 (nums ys)), (12, .val (.int .i64 (nums xs).length)), (13, .val (.int .i64 i))]) (fun zz => match zz with | i => []) (fun zz => match zz with | i => i ≤ xs.length ∧ Upto xs ys i) (fun zz => match zz with | i => xs.length - i) (0) ?_ ?_ ?_ ?_
    · exact ⟨by omega, Upto.zero _ _⟩
    · exact (by repeat' (first | exact SLe.nil _ | refine SLe.cons rfl ?_ ?_ | exact Le.refl _ | exact Le.own _ _ _ | exact Le.nil _))
    · exact (by first | exact MLe.none _ | exact MLe.refl _ | (repeat' (first | exact MLe.nil | exact MLe.refl _ | refine MLe.cons _ ?_ | refine MLe.drop _ ?_)))
    rintro i hI
    try dsimp only at hI ⊢
    obtain ⟨hi, hu⟩ := hI
    refine c_seq ?_
    refine c_region ?_
    refine AOps.st 14 rfl rfl rfl (op_lss rfl rfl rfl ?_); intro c14 h14
    refine AOps.nil ?_
    refine go_code ?_
    refine c_seq ?_
    rcases bool_split h14 with ⟨rfl, g14⟩ | ⟨rfl, g14⟩
    · refine c_cond_f rfl ?_
      refine c_exit ?_
      refine x_code ?_
      refine x_lp ?_
      refine x_here ?_
      refine go_code ?_
      refine c_seq ?_
      refine c_region ?_
      refine AOps.st 4 rfl rfl rfl (op_assign rfl rfl ?_)
      refine AOps.nil ?_
      refine go_code ?_
      refine c_ret ?_
      exact out_tmp rfl rfl (Le.refl _) (by first | exact MLe.none _ | exact MLe.refl _ | (repeat' (first | exact MLe.nil | exact MLe.refl _ | refine MLe.cons _ ?_ | refine MLe.drop _ ?_))) ⟨⟨_, iff_t (hu.eq (by omega) (by omega)), rfl⟩, rfl⟩
    · refine c_cond_t rfl ?_
      refine c_skip ?_
      refine go_code ?_
      refine c_seq ?_
      refine c_block ?_
      refine c_seq ?_
      refine c_region ?_
      refine AOps.st 15 rfl rfl rfl (op_move rfl rfl ?_)
      refine AOps.st 5 rfl rfl rfl (op_assign rfl rfl ?_)
      refine AOps.nil ?_
      refine go_code ?_
      refine c_seq ?_
      obtain ⟨x, hx⟩ := get_some (l := xs) (i := i) (by omega)
      obtain ⟨y, hy⟩ := get_some (l := ys) (i := i) (by omega)
      have hcx := nums_get hx
      have hcy := nums_get hy
      refine c_drawn tmix rfl ?_
      refine DOps.st 16 rfl rfl (op_move rfl rfl ⟨rfl, rfl⟩) ?_
      refine DOps.st 17 rfl rfl (op_move rfl rfl ⟨rfl, rfl⟩) ?_
      refine DOps.st 18 rfl rfl (op_index rfl te_47 rfl (.seq _ _) rfl rfl (by assumption) ⟨rfl, rfl⟩) ?_
      first | (refine DOps.st 19 rfl rfl (op_load_m1 (i := 0) rfl ta_3 rfl rfl rfl ⟨rfl, rfl⟩) ?_) | (refine DOps.st 19 rfl rfl (op_load_m1 (i := 1) rfl ta_3 rfl rfl rfl ⟨rfl, rfl⟩) ?_) | (refine DOps.st 19 rfl rfl (op_load_m1 (i := 2) rfl ta_3 rfl rfl rfl ⟨rfl, rfl⟩) ?_) | (refine DOps.st 19 rfl rfl (op_load_m1 (i := 3) rfl ta_3 rfl rfl rfl ⟨rfl, rfl⟩) ?_) | (refine DOps.st 19 rfl rfl (op_load_m1 (i := 4) rfl ta_3 rfl rfl rfl ⟨rfl, rfl⟩) ?_) | (refine DOps.st 19 rfl rfl (op_load_m1 (i := 5) rfl ta_3 rfl rfl rfl ⟨rfl, rfl⟩) ?_) | (refine DOps.st 19 rfl rfl (op_load_c1 rfl ta_3 rfl rfl ⟨rfl, rfl⟩) ?_)
      refine DOps.st 20 rfl rfl (op_move rfl rfl ⟨rfl, rfl⟩) ?_
      refine DOps.st 21 rfl rfl (op_move rfl rfl ⟨rfl, rfl⟩) ?_
      refine DOps.st 22 rfl rfl (op_index rfl te_47 rfl (.seq _ _) rfl rfl (by assumption) ⟨rfl, rfl⟩) ?_
      first | (refine DOps.st 23 rfl rfl (op_load_m1 (i := 0) rfl ta_3 rfl rfl rfl ⟨rfl, rfl⟩) ?_) | (refine DOps.st 23 rfl rfl (op_load_m1 (i := 1) rfl ta_3 rfl rfl rfl ⟨rfl, rfl⟩) ?_) | (refine DOps.st 23 rfl rfl (op_load_m1 (i := 2) rfl ta_3 rfl rfl rfl ⟨rfl, rfl⟩) ?_) | (refine DOps.st 23 rfl rfl (op_load_m1 (i := 3) rfl ta_3 rfl rfl rfl ⟨rfl, rfl⟩) ?_) | (refine DOps.st 23 rfl rfl (op_load_m1 (i := 4) rfl ta_3 rfl rfl rfl ⟨rfl, rfl⟩) ?_) | (refine DOps.st 23 rfl rfl (op_load_m1 (i := 5) rfl ta_3 rfl rfl rfl ⟨rfl, rfl⟩) ?_) | (refine DOps.st 23 rfl rfl (op_load_c1 rfl ta_3 rfl rfl ⟨rfl, rfl⟩) ?_)
      refine DOps.cm 24 rfl rfl (fun _ q => op_neq rfl rfl rfl q) ?_; intro c24 h24
      show AGo _ _ _ _ _ _ _
      refine go_code ?_
      rcases bool_split h24 with ⟨rfl, g24⟩ | ⟨rfl, g24⟩
      · refine c_cond_f rfl ?_
        refine c_skip ?_
        refine go_blk ?_
        refine go_code ?_
        refine c_region ?_
        refine AOps.st 25 rfl rfl rfl (op_add rfl rfl rfl (IntWalk.i64_in _ (by omega)) ?_)
        refine AOps.st 13 rfl rfl rfl (op_move rfl rfl ?_)
        refine AOps.nil ?_
        refine go_lp ?_
        exact ⟨i + 1, ⟨by omega, hu.succ hx hy (by simpa using g24)⟩, by simp; omega, (by repeat' (first | exact SLe.nil _ | refine SLe.cons rfl ?_ ?_ | exact Le.refl _ | exact Le.own _ _ _ | exact Le.nil _)), (by first | exact MLe.none _ | exact MLe.refl _ | (repeat' (first | exact MLe.nil | exact MLe.refl _ | refine MLe.cons _ ?_ | refine MLe.drop _ ?_)))⟩
      · refine c_cond_t rfl ?_
        refine c_seq ?_
        refine c_region ?_
        refine AOps.st 4 rfl rfl rfl (op_assign rfl rfl ?_)
        refine AOps.nil ?_
        refine go_code ?_
        refine c_ret ?_
        exact out_tmp rfl rfl (Le.refl _) (by first | exact MLe.none _ | exact MLe.refl _ | (repeat' (first | exact MLe.nil | exact MLe.refl _ | refine MLe.cons _ ?_ | refine MLe.drop _ ?_))) ⟨⟨_, iff_f (at_ne hx hy g24), rfl⟩, rfl⟩
  · refine c_cond_t rfl ?_
    refine c_seq ?_
    refine c_region ?_
    refine AOps.st 4 rfl rfl rfl (op_assign rfl rfl ?_)
    refine AOps.nil ?_
    refine go_code ?_
    refine c_ret ?_
    exact out_tmp rfl rfl (Le.refl _) (by first | exact MLe.none _ | exact MLe.refl _ | (repeat' (first | exact MLe.nil | exact MLe.refl _ | refine MLe.cons _ ?_ | refine MLe.drop _ ?_))) ⟨⟨_, iff_f (len_ne (by omega)), rfl⟩, rfl⟩
set_option maxHeartbeats 4000000 in
set_option maxRecDepth 100000 in
theorem SameTypes_of (d : Nat) (ih : ∀ a b : Ty, a.size ≤ d → BCall Try.prog 22 [.agg a.cells, .agg b.cells] (a = b)) (xs ys : List Ty) (hd : Ty.sizes xs ≤ d) : BCall Try.prog 17 [.seq 4 (Ty.cellss xs), .seq 4 (Ty.cellss ys)] (xs = ys) := by
  have hlx := Ty.cellss_len xs
  have hly := Ty.cellss_len ys
  refine ACall.enter Try.func17 rfl (by kernel_rfl) rfl (Nat.le_of_ble_eq_true rfl) ?_
  refine c_start ?_
  refine c_lens (t := 0) rfl (.seq _ _) (fun hmax => ?_)
  refine c_seq ?_
  refine c_region ?_
  refine AOps.st 4 rfl rfl rfl (op_assign rfl rfl ?_)
  refine AOps.nil ?_
  refine go_code ?_
  refine c_seq ?_
  refine c_seq ?_
  refine c_region ?_
  refine AOps.st 6 rfl rfl rfl (op_move rfl rfl ?_)
  refine AOps.st 7 rfl rfl rfl (op_len rfl tu_22 rfl (.seq _ _) (fun n7 => ?_))
  refine AOps.st 8 rfl rfl rfl (op_move rfl rfl ?_)
  refine AOps.st 9 rfl rfl rfl (op_len rfl tu_22 rfl (.seq _ _) (fun n9 => ?_))
  refine AOps.st 10 rfl rfl rfl (op_neq rfl rfl rfl ?_); intro c10 h10
  refine AOps.nil ?_
  refine go_code ?_
  rcases bool_split h10 with ⟨rfl, g10⟩ | ⟨rfl, g10⟩
  · refine c_cond_f rfl ?_
    refine c_skip ?_
    refine go_code ?_
    refine c_seq ?_
    refine c_seq ?_
    refine c_region ?_
    refine AOps.st 5 rfl rfl rfl (op_assign rfl rfl ?_)
    refine AOps.nil ?_
    refine go_code ?_
    refine c_block ?_
    refine c_loop (σ := Nat) (fun zz => match zz with | i => [(0, .seq 4 (Ty.cellss xs)), (1, .seq 4 (Ty.cellss ys)), (5, .val (.int .i64 i))]) (fun zz => match zz with | i => []) (fun zz => match zz with | i => i ≤ xs.length ∧ Upto xs ys i) (fun zz => match zz with | i => xs.length - i) (0) ?_ ?_ ?_ ?_
    · exact ⟨by omega, Upto.zero _ _⟩
    · exact (by repeat' (first | exact SLe.nil _ | refine SLe.cons rfl ?_ ?_ | exact Le.refl _ | exact Le.own _ _ _ | exact Le.nil _))
    · exact (by first | exact MLe.none _ | exact MLe.refl _ | (repeat' (first | exact MLe.nil | exact MLe.refl _ | refine MLe.cons _ ?_ | refine MLe.drop _ ?_)))
    rintro i hI
    try dsimp only at hI ⊢
    obtain ⟨hi, hu⟩ := hI
    refine c_seq ?_
    refine c_seq ?_
    refine c_region ?_
    refine AOps.st 11 rfl rfl rfl (op_move rfl rfl ?_)
    refine AOps.st 12 rfl rfl rfl (op_move rfl rfl ?_)
    refine AOps.st 13 rfl rfl rfl (op_len rfl tu_22 rfl (.seq _ _) (fun n13 => ?_))
    refine AOps.st 14 rfl rfl rfl (op_lss rfl rfl rfl ?_); intro c14 h14
    refine AOps.nil ?_
    refine go_code ?_
    rcases bool_split h14 with ⟨rfl, g14⟩ | ⟨rfl, g14⟩
    · refine c_cond_f rfl ?_
      refine c_exit ?_
      refine x_code ?_
      refine x_lp ?_
      refine x_here ?_
      refine go_code ?_
      refine c_seq ?_
      refine c_region ?_
      refine AOps.st 4 rfl rfl rfl (op_assign rfl rfl ?_)
      refine AOps.nil ?_
      refine go_code ?_
      refine c_ret ?_
      exact out_tmp rfl rfl (Le.refl _) (by first | exact MLe.none _ | exact MLe.refl _ | (repeat' (first | exact MLe.nil | exact MLe.refl _ | refine MLe.cons _ ?_ | refine MLe.drop _ ?_))) ⟨⟨_, iff_t (hu.eq (by omega) (by omega)), rfl⟩, rfl⟩
    · refine c_cond_t rfl ?_
      refine c_skip ?_
      refine go_code ?_
      refine c_seq ?_
      refine c_block ?_
      refine c_seq ?_
      obtain ⟨⟨k1, s1, n1, ks1⟩, hx⟩ := get_some (l := xs) (i := i) (by omega)
      obtain ⟨⟨k2, s2, n2, ks2⟩, hy⟩ := get_some (l := ys) (i := i) (by omega)
      have hcx := Ty.cellss_get hx
      have hcy := Ty.cellss_get hy
      have hsz := Ty.size_at hx
      refine c_drawn tmix rfl ?_
      refine DOps.st 17 rfl rfl (op_move rfl rfl ⟨rfl, rfl⟩) ?_
      refine DOps.st 18 rfl rfl (op_move rfl rfl ⟨rfl, rfl⟩) ?_
      refine DOps.st 19 rfl rfl (op_index rfl te_22 rfl (.seq _ _) rfl rfl (by assumption) ⟨rfl, rfl⟩) ?_
      first | (refine DOps.st 20 rfl rfl (op_load_m (cs' := [_, _, _, _]) (i := 0) rfl ta_24 rfl rfl rfl rfl ⟨rfl, rfl⟩) ?_) | (refine DOps.st 20 rfl rfl (op_load_m (cs' := [_, _, _, _]) (i := 1) rfl ta_24 rfl rfl rfl rfl ⟨rfl, rfl⟩) ?_) | (refine DOps.st 20 rfl rfl (op_load_m (cs' := [_, _, _, _]) (i := 2) rfl ta_24 rfl rfl rfl rfl ⟨rfl, rfl⟩) ?_) | (refine DOps.st 20 rfl rfl (op_load_m (cs' := [_, _, _, _]) (i := 3) rfl ta_24 rfl rfl rfl rfl ⟨rfl, rfl⟩) ?_) | (refine DOps.st 20 rfl rfl (op_load_m (cs' := [_, _, _, _]) (i := 4) rfl ta_24 rfl rfl rfl rfl ⟨rfl, rfl⟩) ?_) | (refine DOps.st 20 rfl rfl (op_load_m (cs' := [_, _, _, _]) (i := 5) rfl ta_24 rfl rfl rfl rfl ⟨rfl, rfl⟩) ?_) | (refine DOps.st 20 rfl rfl (op_load_c (cs' := [_, _, _, _]) rfl ta_24 rfl rfl rfl ⟨rfl, rfl⟩) ?_)
      refine DOps.st 21 rfl rfl (op_move rfl rfl ⟨rfl, rfl⟩) ?_
      refine DOps.st 22 rfl rfl (op_move rfl rfl ⟨rfl, rfl⟩) ?_
      refine DOps.st 23 rfl rfl (op_index rfl te_22 rfl (.seq _ _) rfl rfl (by assumption) ⟨rfl, rfl⟩) ?_
      first | (refine DOps.st 24 rfl rfl (op_load_m (cs' := [_, _, _, _]) (i := 0) rfl ta_24 rfl rfl rfl rfl ⟨rfl, rfl⟩) ?_) | (refine DOps.st 24 rfl rfl (op_load_m (cs' := [_, _, _, _]) (i := 1) rfl ta_24 rfl rfl rfl rfl ⟨rfl, rfl⟩) ?_) | (refine DOps.st 24 rfl rfl (op_load_m (cs' := [_, _, _, _]) (i := 2) rfl ta_24 rfl rfl rfl rfl ⟨rfl, rfl⟩) ?_) | (refine DOps.st 24 rfl rfl (op_load_m (cs' := [_, _, _, _]) (i := 3) rfl ta_24 rfl rfl rfl rfl ⟨rfl, rfl⟩) ?_) | (refine DOps.st 24 rfl rfl (op_load_m (cs' := [_, _, _, _]) (i := 4) rfl ta_24 rfl rfl rfl rfl ⟨rfl, rfl⟩) ?_) | (refine DOps.st 24 rfl rfl (op_load_m (cs' := [_, _, _, _]) (i := 5) rfl ta_24 rfl rfl rfl rfl ⟨rfl, rfl⟩) ?_) | (refine DOps.st 24 rfl rfl (op_load_c (cs' := [_, _, _, _]) rfl ta_24 rfl rfl rfl ⟨rfl, rfl⟩) ?_)
      refine DOps.cm 25 rfl rfl (fun _ q => op_callb (xs := [.tmp 20, .tmp 24]) rfl rfl (ih (.mk k1 s1 n1 ks1) (.mk k2 s2 n2 ks2) (by omega)) (by first | exact Les.refl _ | (repeat' (first | exact Les.refl _ | refine Les.cons ?_ ?_ | exact Le.refl _ | exact Le.own _ _ _ | exact Le.nil _ | refine Le.agg ?_))) q) ?_; intro c25 h25
      refine DOps.cm 26 rfl rfl (fun _ q => op_notc rfl rfl q) ?_; intro c26 h26
      try replace h26 := nott h26 h25
      show AGo _ _ _ _ _ _ _
      refine go_code ?_
      rcases bool_split h26 with ⟨rfl, g26⟩ | ⟨rfl, g26⟩
      · refine c_cond_f rfl ?_
        refine c_skip ?_
        refine go_blk ?_
        refine go_code ?_
        refine c_region ?_
        refine AOps.st 15 rfl rfl rfl (op_move rfl rfl ?_)
        refine AOps.st 16 rfl rfl rfl (op_add rfl rfl rfl (IntWalk.i64_in _ (by omega)) ?_)
        refine AOps.st 5 rfl rfl rfl (op_assign rfl rfl ?_)
        refine AOps.nil ?_
        refine go_lp ?_
        exact ⟨i + 1, ⟨by omega, hu.succ hx hy (Classical.not_not.1 g26)⟩, by simp; omega, (by repeat' (first | exact SLe.nil _ | refine SLe.cons rfl ?_ ?_ | exact Le.refl _ | exact Le.own _ _ _ | exact Le.nil _)), (by first | exact MLe.none _ | exact MLe.refl _ | (repeat' (first | exact MLe.nil | exact MLe.refl _ | refine MLe.cons _ ?_ | refine MLe.drop _ ?_)))⟩
      · refine c_cond_t rfl ?_
        refine c_seq ?_
        refine c_region ?_
        refine AOps.st 4 rfl rfl rfl (op_assign rfl rfl ?_)
        refine AOps.nil ?_
        refine go_code ?_
        refine c_ret ?_
        exact out_tmp rfl rfl (Le.refl _) (by first | exact MLe.none _ | exact MLe.refl _ | (repeat' (first | exact MLe.nil | exact MLe.refl _ | refine MLe.cons _ ?_ | refine MLe.drop _ ?_))) ⟨⟨_, iff_f (at_ne hx hy g26), rfl⟩, rfl⟩
  · refine c_cond_t rfl ?_
    refine c_seq ?_
    refine c_region ?_
    refine AOps.st 4 rfl rfl rfl (op_assign rfl rfl ?_)
    refine AOps.nil ?_
    refine go_code ?_
    refine c_ret ?_
    exact out_tmp rfl rfl (Le.refl _) (by first | exact MLe.none _ | exact MLe.refl _ | (repeat' (first | exact MLe.nil | exact MLe.refl _ | refine MLe.cons _ ?_ | refine MLe.drop _ ?_))) ⟨⟨_, iff_f (len_ne (by omega)), rfl⟩, rfl⟩
set_option maxHeartbeats 4000000 in
set_option maxRecDepth 100000 in
theorem SameType_of (d : Nat) (ih : ∀ xs ys : List Ty, Ty.sizes xs ≤ d → BCall Try.prog 17 [.seq 4 (Ty.cellss xs), .seq 4 (Ty.cellss ys)] (xs = ys)) (a b : Ty) (hd : a.size ≤ d + 1) : BCall Try.prog 22 [.agg a.cells, .agg b.cells] (a = b) := by
  obtain ⟨k1, s1, n1, ks1⟩ := a
  obtain ⟨k2, s2, n2, ks2⟩ := b
  rw [Ty.size] at hd
  refine ACall.enter Try.func22 rfl (by kernel_rfl) rfl (Nat.le_of_ble_eq_true rfl) ?_
  refine c_start ?_
  refine c_seq ?_
  refine c_region ?_
  refine AOps.st 2 rfl rfl rfl (op_boxe (cs' := [_, _, _, _]) rfl rfl rfl rfl ?_); intro b2
  refine AOps.st 3 rfl rfl rfl (op_boxe (cs' := [_, _, _, _]) rfl rfl rfl rfl ?_); intro b3
  refine AOps.st 4 rfl rfl rfl (op_assign rfl rfl ?_)
  refine AOps.nil ?_
  refine go_code ?_
  refine c_seq ?_
  refine c_bool 4 (Ty.mk k1 s1 n1 ks1 = Ty.mk k2 s2 n2 ks2) ?_ _ _ rfl ?_
  · skip
    refine AOps.st 5 rfl rfl rfl (op_fieldAddr_m rfl tf_24_0 rfl ?_)
    first | (refine AOps.st 6 rfl rfl rfl (op_load_m1 (i := 0) rfl ta_3 rfl rfl rfl ?_)) | (refine AOps.st 6 rfl rfl rfl (op_load_m1 (i := 1) rfl ta_3 rfl rfl rfl ?_))
    refine AOps.st 7 rfl rfl rfl (op_fieldAddr_m rfl tf_24_0 rfl ?_)
    refine AOps.st 8 rfl rfl rfl (op_load_m1 (i := 0) rfl ta_3 rfl rfl rfl ?_)
    refine AOps.st 9 rfl rfl rfl (op_eql rfl rfl rfl ?_); intro c9 h9
    refine AOps.st 10 rfl rfl rfl (op_move rfl rfl ?_)
    rcases bool_split h9 with ⟨rfl, g9⟩ | ⟨rfl, g9⟩
    · skip
      refine AOps.gf 11 rfl rfl rfl rfl rfl ?_
      refine AOps.gf 12 rfl rfl rfl rfl rfl ?_
      refine AOps.gf 13 rfl rfl rfl rfl rfl ?_
      refine AOps.gf 14 rfl rfl rfl rfl rfl ?_
      refine AOps.gf 15 rfl rfl rfl rfl rfl ?_
      refine AOps.st 16 rfl rfl rfl (op_pick rfl rfl rfl ?_)
      refine AOps.st 17 rfl rfl rfl (op_move rfl rfl ?_)
      refine AOps.gf 18 rfl rfl rfl rfl rfl ?_
      refine AOps.gf 19 rfl rfl rfl rfl rfl ?_
      refine AOps.gf 20 rfl rfl rfl rfl rfl ?_
      refine AOps.gf 21 rfl rfl rfl rfl rfl ?_
      refine AOps.gf 22 rfl rfl rfl rfl rfl ?_
      refine AOps.st 23 rfl rfl rfl (op_pick rfl rfl rfl ?_)
      refine AOps.st 24 rfl rfl rfl (op_move rfl rfl ?_)
      refine AOps.gf 25 rfl rfl rfl rfl rfl ?_
      refine AOps.gf 26 rfl rfl rfl rfl rfl ?_
      refine AOps.gf 27 rfl rfl rfl rfl rfl ?_
      refine AOps.gf 28 rfl rfl rfl rfl rfl ?_
      refine AOps.gf 29 rfl rfl rfl rfl rfl ?_
      refine AOps.st 30 rfl rfl rfl (op_pick rfl rfl rfl ?_)
      refine AOps.st 4 rfl rfl rfl (op_assign rfl rfl ?_)
      refine AOps.nil ?_
      refine BoolQ.mk rfl ?_ (by repeat' (first | exact SLe.wo _ _ | exact SLe.refl _ | refine SLe.fresh rfl ?_)) (by first | exact MLe.none _ | exact MLe.refl _ | (repeat' (first | exact MLe.nil | exact MLe.refl _ | refine MLe.cons _ ?_ | refine MLe.drop _ ?_)))
      simp_all
    · skip
      refine AOps.gt 11 rfl rfl rfl rfl rfl (op_fieldAddr_m rfl tf_24_1 rfl ?_)
      first | (refine AOps.gt 12 rfl rfl rfl rfl rfl (op_load_m1 (i := 0) rfl ta_9 rfl rfl rfl ?_)) | (refine AOps.gt 12 rfl rfl rfl rfl rfl (op_load_m1 (i := 1) rfl ta_9 rfl rfl rfl ?_))
      refine AOps.gt 13 rfl rfl rfl rfl rfl (op_fieldAddr_m rfl tf_24_1 rfl ?_)
      refine AOps.gt 14 rfl rfl rfl rfl rfl (op_load_m1 (i := 0) rfl ta_9 rfl rfl rfl ?_)
      refine AOps.gt 15 rfl rfl rfl rfl rfl (op_seql rfl rfl rfl ?_); intro c15 h15
      refine AOps.st 16 rfl rfl rfl (op_pick rfl rfl rfl ?_)
      refine AOps.st 17 rfl rfl rfl (op_move rfl rfl ?_)
      rcases bool_split h15 with ⟨rfl, g15⟩ | ⟨rfl, g15⟩
      · skip
        refine AOps.gf 18 rfl rfl rfl rfl rfl ?_
        refine AOps.gf 19 rfl rfl rfl rfl rfl ?_
        refine AOps.gf 20 rfl rfl rfl rfl rfl ?_
        refine AOps.gf 21 rfl rfl rfl rfl rfl ?_
        refine AOps.gf 22 rfl rfl rfl rfl rfl ?_
        refine AOps.st 23 rfl rfl rfl (op_pick rfl rfl rfl ?_)
        refine AOps.st 24 rfl rfl rfl (op_move rfl rfl ?_)
        refine AOps.gf 25 rfl rfl rfl rfl rfl ?_
        refine AOps.gf 26 rfl rfl rfl rfl rfl ?_
        refine AOps.gf 27 rfl rfl rfl rfl rfl ?_
        refine AOps.gf 28 rfl rfl rfl rfl rfl ?_
        refine AOps.gf 29 rfl rfl rfl rfl rfl ?_
        refine AOps.st 30 rfl rfl rfl (op_pick rfl rfl rfl ?_)
        refine AOps.st 4 rfl rfl rfl (op_assign rfl rfl ?_)
        refine AOps.nil ?_
        refine BoolQ.mk rfl ?_ (by repeat' (first | exact SLe.wo _ _ | exact SLe.refl _ | refine SLe.fresh rfl ?_)) (by first | exact MLe.none _ | exact MLe.refl _ | (repeat' (first | exact MLe.nil | exact MLe.refl _ | refine MLe.cons _ ?_ | refine MLe.drop _ ?_)))
        simp_all
      · skip
        refine AOps.gt 18 rfl rfl rfl rfl rfl (op_fieldAddr_m rfl tf_24_2 rfl ?_)
        first | (refine AOps.gt 19 rfl rfl rfl rfl rfl (op_load_m1 (i := 0) rfl ta_3 rfl rfl rfl ?_)) | (refine AOps.gt 19 rfl rfl rfl rfl rfl (op_load_m1 (i := 1) rfl ta_3 rfl rfl rfl ?_))
        refine AOps.gt 20 rfl rfl rfl rfl rfl (op_fieldAddr_m rfl tf_24_2 rfl ?_)
        refine AOps.gt 21 rfl rfl rfl rfl rfl (op_load_m1 (i := 0) rfl ta_3 rfl rfl rfl ?_)
        refine AOps.gt 22 rfl rfl rfl rfl rfl (op_eql rfl rfl rfl ?_); intro c22 h22
        refine AOps.st 23 rfl rfl rfl (op_pick rfl rfl rfl ?_)
        refine AOps.st 24 rfl rfl rfl (op_move rfl rfl ?_)
        rcases bool_split h22 with ⟨rfl, g22⟩ | ⟨rfl, g22⟩
        · skip
          refine AOps.gf 25 rfl rfl rfl rfl rfl ?_
          refine AOps.gf 26 rfl rfl rfl rfl rfl ?_
          refine AOps.gf 27 rfl rfl rfl rfl rfl ?_
          refine AOps.gf 28 rfl rfl rfl rfl rfl ?_
          refine AOps.gf 29 rfl rfl rfl rfl rfl ?_
          refine AOps.st 30 rfl rfl rfl (op_pick rfl rfl rfl ?_)
          refine AOps.st 4 rfl rfl rfl (op_assign rfl rfl ?_)
          refine AOps.nil ?_
          refine BoolQ.mk rfl ?_ (by repeat' (first | exact SLe.wo _ _ | exact SLe.refl _ | refine SLe.fresh rfl ?_)) (by first | exact MLe.none _ | exact MLe.refl _ | (repeat' (first | exact MLe.nil | exact MLe.refl _ | refine MLe.cons _ ?_ | refine MLe.drop _ ?_)))
          simp_all
        · skip
          refine AOps.gt 25 rfl rfl rfl rfl rfl (op_fieldAddr_m rfl tf_24_3 rfl ?_)
          first | (refine AOps.gt 26 rfl rfl rfl rfl rfl (op_load_m1 (i := 0) rfl ta_22 rfl rfl rfl ?_)) | (refine AOps.gt 26 rfl rfl rfl rfl rfl (op_load_m1 (i := 1) rfl ta_22 rfl rfl rfl ?_))
          refine AOps.gt 27 rfl rfl rfl rfl rfl (op_fieldAddr_m rfl tf_24_3 rfl ?_)
          refine AOps.gt 28 rfl rfl rfl rfl rfl (op_load_m1 (i := 0) rfl ta_22 rfl rfl rfl ?_)
          refine AOps.gt 29 rfl rfl rfl rfl rfl (op_callb (xs := [.tmp 26, .tmp 28]) rfl rfl (ih ks1 ks2 (by omega)) (by first | exact Les.refl _ | (repeat' (first | exact Les.refl _ | refine Les.cons ?_ ?_ | exact Le.refl _ | exact Le.own _ _ _ | exact Le.nil _ | refine Le.agg ?_))) ?_); intro c29 h29
          refine AOps.st 30 rfl rfl rfl (op_pick rfl rfl rfl ?_)
          refine AOps.st 4 rfl rfl rfl (op_assign rfl rfl ?_)
          refine AOps.nil ?_
          refine BoolQ.mk rfl ?_ (by repeat' (first | exact SLe.wo _ _ | exact SLe.refl _ | refine SLe.fresh rfl ?_)) (by first | exact MLe.none _ | exact MLe.refl _ | (repeat' (first | exact MLe.nil | exact MLe.refl _ | refine MLe.cons _ ?_ | refine MLe.drop _ ?_)))
          simp_all
  intro c4 h4
  refine go_code ?_
  refine c_ret ?_
  exact out_tmp rfl rfl (Le.refl _) (by first | exact MLe.none _ | exact MLe.refl _ | (repeat' (first | exact MLe.nil | exact MLe.refl _ | refine MLe.cons _ ?_ | refine MLe.drop _ ?_))) ⟨⟨_, h4, rfl⟩, rfl⟩
theorem SameTy_all (d : Nat) : (∀ a b : Ty, a.size ≤ d → BCall Try.prog 22 [.agg a.cells, .agg b.cells] (a = b)) ∧ (∀ xs ys : List Ty, Ty.sizes xs ≤ d → BCall Try.prog 17 [.seq 4 (Ty.cellss xs), .seq 4 (Ty.cellss ys)] (xs = ys)) := by
  induction d with
  | zero =>
    have h1 : ∀ a b : Ty, a.size ≤ 0 → BCall Try.prog 22 [.agg a.cells, .agg b.cells] (a = b) := fun a b h => by have := Ty.size_pos a; omega
    exact ⟨h1, SameTypes_of 0 h1⟩
  | succ d ih => exact ⟨SameType_of d ih.2, SameTypes_of (d + 1) (SameType_of d ih.2)⟩
theorem SameType_c (a b : Ty) : BCall Try.prog 22 [.agg a.cells, .agg b.cells] (a = b) := (SameTy_all a.size).1 a b (Nat.le_refl _)
theorem SameTypes_c (xs ys : List Ty) : BCall Try.prog 17 [.seq 4 (Ty.cellss xs), .seq 4 (Ty.cellss ys)] (xs = ys) := (SameTy_all (Ty.sizes xs)).2 xs ys (Nat.le_refl _)
end Go.Proofs.Ytjgjnheeohfmmaa
