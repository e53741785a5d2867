/- slices.Equal; code.Same and what it calls; cognateref29.Same. -/
import Derived.Test.YtadhakcmfkghbaaB29w
import Derived.Test.YtadhakcmfkghbaaPE
namespace Go.Proofs.Ytadhakcmfkghbaa
open Go.RowKit
set_option maxHeartbeats 4000000 in
set_option maxRecDepth 100000 in
theorem Equal_S (xs ys : List ByteArray) : BCall Try.prog 26 [.seq 1 (strs xs), .seq 1 (strs ys)] (xs = ys) := by
  have hlx := strs_len xs
  have hly := strs_len ys
  refine ACall.enter Try.func26 rfl (by kernel_rfl) rfl (Nat.le_of_ble_eq_true rfl) ?_
  refine c_start ?_
  refine c_lens (t := 0) rfl (.seq _ _) (fun hmax => ?_)
  refine c_seq ?_
  refine c_region ?_
  refine AOps.st 4 rfl rfl rfl (op_assign rfl rfl ?_)
  refine AOps.nil ?_
  refine go_code ?_
  refine c_seq ?_
  refine c_seq ?_
  refine c_region ?_
  refine AOps.st 6 rfl rfl rfl (op_move rfl rfl ?_)
  refine AOps.st 7 rfl rfl rfl (op_len rfl tu_24 rfl (.seq _ _) (fun n7 => ?_))
  refine AOps.st 8 rfl rfl rfl (op_move rfl rfl ?_)
  refine AOps.st 9 rfl rfl rfl (op_len rfl tu_24 rfl (.seq _ _) (fun n9 => ?_))
  refine AOps.st 10 rfl rfl rfl (op_neq rfl rfl rfl ?_); intro c10 h10
  refine AOps.nil ?_
  refine go_code ?_
  rcases bool_split h10 with ⟨rfl, g10⟩ | ⟨rfl, g10⟩
  · refine c_cond_f rfl ?_
    refine c_skip ?_
    refine go_code ?_
    refine c_seq ?_
    refine c_seq ?_
    refine c_region ?_
    refine AOps.st 11 rfl rfl rfl (op_move rfl rfl ?_)
    refine AOps.st 12 rfl rfl rfl (op_len rfl tu_24 rfl (.seq _ _) (fun n12 => ?_))
    refine AOps.st 13 rfl rfl rfl (op_move rfl rfl ?_)
    refine AOps.nil ?_
    refine go_code ?_
    refine c_block ?_
    apply c_loopkm [2, 3, 4, 5, 6, 7, 8, 9, 10, 11, 13, 14, 15, 16, 17, 18, 19, 20, 21, 22, 23, 24, 25] (σ := Nat) (fun zz => match zz with | i => [(13, .val (.int .i64 i))]) (fun zz => match zz with | i => i ≤ xs.length ∧ Upto xs ys i) (fun zz => match zz with | i => xs.length - i) (0)
    · repeat' (first | exact Drops.nil | apply Drops.keep rfl | apply Drops.skip rfl)
    · exact ⟨by omega, Upto.zero _ _⟩
    · exact (by repeat' (first | exact SLe.nil _ | refine SLe.cons rfl ?_ ?_ | exact Le.refl _ | exact Le.own _ _ _ | exact Le.nil _))
    rintro i hI
    try dsimp only [List.cons_append, List.nil_append] at hI ⊢
    obtain ⟨hi, hu⟩ := hI
    refine c_seq ?_
    refine c_region ?_
    refine AOps.st 14 rfl rfl rfl (op_lss rfl rfl rfl ?_); intro c14 h14
    refine AOps.nil ?_
    refine go_code ?_
    refine c_seq ?_
    rcases bool_split h14 with ⟨rfl, g14⟩ | ⟨rfl, g14⟩
    · refine c_cond_f rfl ?_
      refine c_exit ?_
      refine x_code ?_
      refine x_lp ?_
      refine x_here ?_
      refine go_code ?_
      refine c_seq ?_
      refine c_region ?_
      refine AOps.st 4 rfl rfl rfl (op_assign rfl rfl ?_)
      refine AOps.nil ?_
      refine go_code ?_
      refine c_ret ?_
      exact out_tmp rfl rfl (Le.refl _) (by first | exact MLe.none _ | exact MLe.refl _ | (repeat' (first | exact MLe.nil | exact MLe.refl _ | refine MLe.cons _ ?_ | refine MLe.drop _ ?_))) ⟨⟨_, iff_t (hu.eq (by omega) (by omega)), rfl⟩, rfl⟩
    · refine c_cond_t rfl ?_
      refine c_skip ?_
      refine go_code ?_
      refine c_seq ?_
      refine c_block ?_
      refine c_seq ?_
      obtain ⟨x, hxx⟩ := get_some (l := xs) (i := i) (by first | omega | (simp at *; omega))
      have hcx := strs_get hxx
      have hmx := List.mem_of_getElem? hxx
      obtain ⟨y, hxy⟩ := get_some (l := ys) (i := i) (by first | omega | (simp at *; omega))
      have hcy := strs_get hxy
      have hmy := List.mem_of_getElem? hxy
      refine c_region ?_
      refine AOps.st 15 rfl rfl rfl (op_move rfl rfl ?_)
      refine AOps.st 5 rfl rfl rfl (op_assign rfl rfl ?_)
      refine AOps.nil ?_
      refine go_code ?_
      refine c_seq ?_
      refine c_drawn tmix rfl ?_
      refine DOps.st 16 rfl rfl (op_move rfl rfl ⟨rfl, rfl⟩) ?_
      refine DOps.st 17 rfl rfl (op_move rfl rfl ⟨rfl, rfl⟩) ?_
      refine DOps.st 18 rfl rfl (op_index rfl te_24 rfl (.seq _ _) rfl rfl (by assumption) ⟨rfl, rfl⟩) ?_
      first | (refine DOps.st 19 rfl rfl (op_load_m1 (i := 0) rfl ta_9 rfl rfl rfl ⟨rfl, rfl⟩) ?_) | (refine DOps.st 19 rfl rfl (op_load_m1 (i := 1) rfl ta_9 rfl rfl rfl ⟨rfl, rfl⟩) ?_) | (refine DOps.st 19 rfl rfl (op_load_m1 (i := 2) rfl ta_9 rfl rfl rfl ⟨rfl, rfl⟩) ?_) | (refine DOps.st 19 rfl rfl (op_load_m1 (i := 3) rfl ta_9 rfl rfl rfl ⟨rfl, rfl⟩) ?_) | (refine DOps.st 19 rfl rfl (op_load_m1 (i := 4) rfl ta_9 rfl rfl rfl ⟨rfl, rfl⟩) ?_) | (refine DOps.st 19 rfl rfl (op_load_m1 (i := 5) rfl ta_9 rfl rfl rfl ⟨rfl, rfl⟩) ?_) | (refine DOps.st 19 rfl rfl (op_load_m1 (i := 6) rfl ta_9 rfl rfl rfl ⟨rfl, rfl⟩) ?_) | (refine DOps.st 19 rfl rfl (op_load_m1 (i := 7) rfl ta_9 rfl rfl rfl ⟨rfl, rfl⟩) ?_) | (refine DOps.st 19 rfl rfl (op_load_m1 (i := 8) rfl ta_9 rfl rfl rfl ⟨rfl, rfl⟩) ?_) | (refine DOps.st 19 rfl rfl (op_load_m1 (i := 9) rfl ta_9 rfl rfl rfl ⟨rfl, rfl⟩) ?_) | (refine DOps.st 19 rfl rfl (op_load_c1 rfl ta_9 rfl rfl ⟨rfl, rfl⟩) ?_)
      refine DOps.st 20 rfl rfl (op_move rfl rfl ⟨rfl, rfl⟩) ?_
      refine DOps.st 21 rfl rfl (op_move rfl rfl ⟨rfl, rfl⟩) ?_
      refine DOps.st 22 rfl rfl (op_index rfl te_24 rfl (.seq _ _) rfl rfl (by assumption) ⟨rfl, rfl⟩) ?_
      first | (refine DOps.st 23 rfl rfl (op_load_m1 (i := 0) rfl ta_9 rfl rfl rfl ⟨rfl, rfl⟩) ?_) | (refine DOps.st 23 rfl rfl (op_load_m1 (i := 1) rfl ta_9 rfl rfl rfl ⟨rfl, rfl⟩) ?_) | (refine DOps.st 23 rfl rfl (op_load_m1 (i := 2) rfl ta_9 rfl rfl rfl ⟨rfl, rfl⟩) ?_) | (refine DOps.st 23 rfl rfl (op_load_m1 (i := 3) rfl ta_9 rfl rfl rfl ⟨rfl, rfl⟩) ?_) | (refine DOps.st 23 rfl rfl (op_load_m1 (i := 4) rfl ta_9 rfl rfl rfl ⟨rfl, rfl⟩) ?_) | (refine DOps.st 23 rfl rfl (op_load_m1 (i := 5) rfl ta_9 rfl rfl rfl ⟨rfl, rfl⟩) ?_) | (refine DOps.st 23 rfl rfl (op_load_m1 (i := 6) rfl ta_9 rfl rfl rfl ⟨rfl, rfl⟩) ?_) | (refine DOps.st 23 rfl rfl (op_load_m1 (i := 7) rfl ta_9 rfl rfl rfl ⟨rfl, rfl⟩) ?_) | (refine DOps.st 23 rfl rfl (op_load_m1 (i := 8) rfl ta_9 rfl rfl rfl ⟨rfl, rfl⟩) ?_) | (refine DOps.st 23 rfl rfl (op_load_m1 (i := 9) rfl ta_9 rfl rfl rfl ⟨rfl, rfl⟩) ?_) | (refine DOps.st 23 rfl rfl (op_load_c1 rfl ta_9 rfl rfl ⟨rfl, rfl⟩) ?_)
      refine DOps.cm 24 rfl rfl (fun _ q => op_sneq rfl rfl rfl q) ?_; intro c24 h24
      show AGo _ _ _ _ _ _ _
      refine go_code ?_
      rcases bool_split h24 with ⟨rfl, g24⟩ | ⟨rfl, g24⟩
      · refine c_cond_f rfl ?_
        refine c_skip ?_
        refine go_blk ?_
        refine go_code ?_
        refine c_region ?_
        refine AOps.st 25 rfl rfl rfl (op_add rfl rfl rfl (IntWalk.i64_in _ (by omega)) ?_)
        refine AOps.st 13 rfl rfl rfl (op_move rfl rfl ?_)
        refine AOps.nil ?_
        refine go_lp ?_
        exact ⟨i + 1, ⟨by omega, hu.succ hxx hxy (Classical.not_not.1 g24)⟩, by simp; omega, (by repeat' (first | exact SLe.nil _ | refine SLe.cons rfl ?_ ?_ | exact Le.refl _ | exact Le.own _ _ _ | exact Le.nil _)), (by first | exact MLe.none _ | exact MLe.refl _ | (repeat' (first | exact MLe.nil | exact MLe.refl _ | refine MLe.cons _ ?_ | refine MLe.drop _ ?_)))⟩
      · refine c_cond_t rfl ?_
        refine c_seq ?_
        refine c_region ?_
        refine AOps.st 4 rfl rfl rfl (op_assign rfl rfl ?_)
        refine AOps.nil ?_
        refine go_code ?_
        refine c_ret ?_
        exact out_tmp rfl rfl (Le.refl _) (by first | exact MLe.none _ | exact MLe.refl _ | (repeat' (first | exact MLe.nil | exact MLe.refl _ | refine MLe.cons _ ?_ | refine MLe.drop _ ?_))) ⟨⟨_, iff_f (fun e => g24 (by subst e; rw [hxx] at hxy; cases hxy; rfl)), rfl⟩, rfl⟩
  · refine c_cond_t rfl ?_
    refine c_seq ?_
    refine c_region ?_
    refine AOps.st 4 rfl rfl rfl (op_assign rfl rfl ?_)
    refine AOps.nil ?_
    refine go_code ?_
    refine c_ret ?_
    exact out_tmp rfl rfl (Le.refl _) (by first | exact MLe.none _ | exact MLe.refl _ | (repeat' (first | exact MLe.nil | exact MLe.refl _ | refine MLe.cons _ ?_ | refine MLe.drop _ ?_))) ⟨⟨_, iff_f (fun e => by subst e; omega), rfl⟩, rfl⟩
set_option maxHeartbeats 4000000 in
set_option maxRecDepth 100000 in
theorem Equal_I (xs ys : List Int) : BCall Try.prog 24 [.seq 1 (nums xs), .seq 1 (nums ys)] (xs = ys) := by
  have hlx := nums_len xs
  have hly := nums_len ys
  refine ACall.enter Try.func24 rfl (by kernel_rfl) rfl (Nat.le_of_ble_eq_true rfl) ?_
  refine c_start ?_
  refine c_lens (t := 0) rfl (.seq _ _) (fun hmax => ?_)
  refine c_seq ?_
  refine c_region ?_
  refine AOps.st 4 rfl rfl rfl (op_assign rfl rfl ?_)
  refine AOps.nil ?_
  refine go_code ?_
  refine c_seq ?_
  refine c_seq ?_
  refine c_region ?_
  refine AOps.st 6 rfl rfl rfl (op_move rfl rfl ?_)
  refine AOps.st 7 rfl rfl rfl (op_len rfl tu_43 rfl (.seq _ _) (fun n7 => ?_))
  refine AOps.st 8 rfl rfl rfl (op_move rfl rfl ?_)
  refine AOps.st 9 rfl rfl rfl (op_len rfl tu_43 rfl (.seq _ _) (fun n9 => ?_))
  refine AOps.st 10 rfl rfl rfl (op_neq rfl rfl rfl ?_); intro c10 h10
  refine AOps.nil ?_
  refine go_code ?_
  rcases bool_split h10 with ⟨rfl, g10⟩ | ⟨rfl, g10⟩
  · refine c_cond_f rfl ?_
    refine c_skip ?_
    refine go_code ?_
    refine c_seq ?_
    refine c_seq ?_
    refine c_region ?_
    refine AOps.st 11 rfl rfl rfl (op_move rfl rfl ?_)
    refine AOps.st 12 rfl rfl rfl (op_len rfl tu_43 rfl (.seq _ _) (fun n12 => ?_))
    refine AOps.st 13 rfl rfl rfl (op_move rfl rfl ?_)
    refine AOps.nil ?_
    refine go_code ?_
    refine c_block ?_
    apply c_loopkm [2, 3, 4, 5, 6, 7, 8, 9, 10, 11, 13, 14, 15, 16, 17, 18, 19, 20, 21, 22, 23, 24, 25] (σ := Nat) (fun zz => match zz with | i => [(13, .val (.int .i64 i))]) (fun zz => match zz with | i => i ≤ xs.length ∧ Upto xs ys i) (fun zz => match zz with | i => xs.length - i) (0)
    · repeat' (first | exact Drops.nil | apply Drops.keep rfl | apply Drops.skip rfl)
    · exact ⟨by omega, Upto.zero _ _⟩
    · exact (by repeat' (first | exact SLe.nil _ | refine SLe.cons rfl ?_ ?_ | exact Le.refl _ | exact Le.own _ _ _ | exact Le.nil _))
    rintro i hI
    try dsimp only [List.cons_append, List.nil_append] at hI ⊢
    obtain ⟨hi, hu⟩ := hI
    refine c_seq ?_
    refine c_region ?_
    refine AOps.st 14 rfl rfl rfl (op_lss rfl rfl rfl ?_); intro c14 h14
    refine AOps.nil ?_
    refine go_code ?_
    refine c_seq ?_
    rcases bool_split h14 with ⟨rfl, g14⟩ | ⟨rfl, g14⟩
    · refine c_cond_f rfl ?_
      refine c_exit ?_
      refine x_code ?_
      refine x_lp ?_
      refine x_here ?_
      refine go_code ?_
      refine c_seq ?_
      refine c_region ?_
      refine AOps.st 4 rfl rfl rfl (op_assign rfl rfl ?_)
      refine AOps.nil ?_
      refine go_code ?_
      refine c_ret ?_
      exact out_tmp rfl rfl (Le.refl _) (by first | exact MLe.none _ | exact MLe.refl _ | (repeat' (first | exact MLe.nil | exact MLe.refl _ | refine MLe.cons _ ?_ | refine MLe.drop _ ?_))) ⟨⟨_, iff_t (hu.eq (by omega) (by omega)), rfl⟩, rfl⟩
    · refine c_cond_t rfl ?_
      refine c_skip ?_
      refine go_code ?_
      refine c_seq ?_
      refine c_block ?_
      refine c_seq ?_
      obtain ⟨x, hxx⟩ := get_some (l := xs) (i := i) (by first | omega | (simp at *; omega))
      have hcx := nums_get hxx
      have hmx := List.mem_of_getElem? hxx
      obtain ⟨y, hxy⟩ := get_some (l := ys) (i := i) (by first | omega | (simp at *; omega))
      have hcy := nums_get hxy
      have hmy := List.mem_of_getElem? hxy
      refine c_region ?_
      refine AOps.st 15 rfl rfl rfl (op_move rfl rfl ?_)
      refine AOps.st 5 rfl rfl rfl (op_assign rfl rfl ?_)
      refine AOps.nil ?_
      refine go_code ?_
      refine c_seq ?_
      refine c_drawn tmix rfl ?_
      refine DOps.st 16 rfl rfl (op_move rfl rfl ⟨rfl, rfl⟩) ?_
      refine DOps.st 17 rfl rfl (op_move rfl rfl ⟨rfl, rfl⟩) ?_
      refine DOps.st 18 rfl rfl (op_index rfl te_43 rfl (.seq _ _) rfl rfl (by assumption) ⟨rfl, rfl⟩) ?_
      first | (refine DOps.st 19 rfl rfl (op_load_m1 (i := 0) rfl ta_3 rfl rfl rfl ⟨rfl, rfl⟩) ?_) | (refine DOps.st 19 rfl rfl (op_load_m1 (i := 1) rfl ta_3 rfl rfl rfl ⟨rfl, rfl⟩) ?_) | (refine DOps.st 19 rfl rfl (op_load_m1 (i := 2) rfl ta_3 rfl rfl rfl ⟨rfl, rfl⟩) ?_) | (refine DOps.st 19 rfl rfl (op_load_m1 (i := 3) rfl ta_3 rfl rfl rfl ⟨rfl, rfl⟩) ?_) | (refine DOps.st 19 rfl rfl (op_load_m1 (i := 4) rfl ta_3 rfl rfl rfl ⟨rfl, rfl⟩) ?_) | (refine DOps.st 19 rfl rfl (op_load_m1 (i := 5) rfl ta_3 rfl rfl rfl ⟨rfl, rfl⟩) ?_) | (refine DOps.st 19 rfl rfl (op_load_m1 (i := 6) rfl ta_3 rfl rfl rfl ⟨rfl, rfl⟩) ?_) | (refine DOps.st 19 rfl rfl (op_load_m1 (i := 7) rfl ta_3 rfl rfl rfl ⟨rfl, rfl⟩) ?_) | (refine DOps.st 19 rfl rfl (op_load_m1 (i := 8) rfl ta_3 rfl rfl rfl ⟨rfl, rfl⟩) ?_) | (refine DOps.st 19 rfl rfl (op_load_m1 (i := 9) rfl ta_3 rfl rfl rfl ⟨rfl, rfl⟩) ?_) | (refine DOps.st 19 rfl rfl (op_load_c1 rfl ta_3 rfl rfl ⟨rfl, rfl⟩) ?_)
      refine DOps.st 20 rfl rfl (op_move rfl rfl ⟨rfl, rfl⟩) ?_
      refine DOps.st 21 rfl rfl (op_move rfl rfl ⟨rfl, rfl⟩) ?_
      refine DOps.st 22 rfl rfl (op_index rfl te_43 rfl (.seq _ _) rfl rfl (by assumption) ⟨rfl, rfl⟩) ?_
      first | (refine DOps.st 23 rfl rfl (op_load_m1 (i := 0) rfl ta_3 rfl rfl rfl ⟨rfl, rfl⟩) ?_) | (refine DOps.st 23 rfl rfl (op_load_m1 (i := 1) rfl ta_3 rfl rfl rfl ⟨rfl, rfl⟩) ?_) | (refine DOps.st 23 rfl rfl (op_load_m1 (i := 2) rfl ta_3 rfl rfl rfl ⟨rfl, rfl⟩) ?_) | (refine DOps.st 23 rfl rfl (op_load_m1 (i := 3) rfl ta_3 rfl rfl rfl ⟨rfl, rfl⟩) ?_) | (refine DOps.st 23 rfl rfl (op_load_m1 (i := 4) rfl ta_3 rfl rfl rfl ⟨rfl, rfl⟩) ?_) | (refine DOps.st 23 rfl rfl (op_load_m1 (i := 5) rfl ta_3 rfl rfl rfl ⟨rfl, rfl⟩) ?_) | (refine DOps.st 23 rfl rfl (op_load_m1 (i := 6) rfl ta_3 rfl rfl rfl ⟨rfl, rfl⟩) ?_) | (refine DOps.st 23 rfl rfl (op_load_m1 (i := 7) rfl ta_3 rfl rfl rfl ⟨rfl, rfl⟩) ?_) | (refine DOps.st 23 rfl rfl (op_load_m1 (i := 8) rfl ta_3 rfl rfl rfl ⟨rfl, rfl⟩) ?_) | (refine DOps.st 23 rfl rfl (op_load_m1 (i := 9) rfl ta_3 rfl rfl rfl ⟨rfl, rfl⟩) ?_) | (refine DOps.st 23 rfl rfl (op_load_c1 rfl ta_3 rfl rfl ⟨rfl, rfl⟩) ?_)
      refine DOps.cm 24 rfl rfl (fun _ q => op_neq rfl rfl rfl q) ?_; intro c24 h24
      show AGo _ _ _ _ _ _ _
      refine go_code ?_
      rcases bool_split h24 with ⟨rfl, g24⟩ | ⟨rfl, g24⟩
      · refine c_cond_f rfl ?_
        refine c_skip ?_
        refine go_blk ?_
        refine go_code ?_
        refine c_region ?_
        refine AOps.st 25 rfl rfl rfl (op_add rfl rfl rfl (IntWalk.i64_in _ (by omega)) ?_)
        refine AOps.st 13 rfl rfl rfl (op_move rfl rfl ?_)
        refine AOps.nil ?_
        refine go_lp ?_
        exact ⟨i + 1, ⟨by omega, hu.succ hxx hxy (Classical.not_not.1 g24)⟩, by simp; omega, (by repeat' (first | exact SLe.nil _ | refine SLe.cons rfl ?_ ?_ | exact Le.refl _ | exact Le.own _ _ _ | exact Le.nil _)), (by first | exact MLe.none _ | exact MLe.refl _ | (repeat' (first | exact MLe.nil | exact MLe.refl _ | refine MLe.cons _ ?_ | refine MLe.drop _ ?_)))⟩
      · refine c_cond_t rfl ?_
        refine c_seq ?_
        refine c_region ?_
        refine AOps.st 4 rfl rfl rfl (op_assign rfl rfl ?_)
        refine AOps.nil ?_
        refine go_code ?_
        refine c_ret ?_
        exact out_tmp rfl rfl (Le.refl _) (by first | exact MLe.none _ | exact MLe.refl _ | (repeat' (first | exact MLe.nil | exact MLe.refl _ | refine MLe.cons _ ?_ | refine MLe.drop _ ?_))) ⟨⟨_, iff_f (fun e => g24 (by subst e; rw [hxx] at hxy; cases hxy; rfl)), rfl⟩, rfl⟩
  · refine c_cond_t rfl ?_
    refine c_seq ?_
    refine c_region ?_
    refine AOps.st 4 rfl rfl rfl (op_assign rfl rfl ?_)
    refine AOps.nil ?_
    refine go_code ?_
    refine c_ret ?_
    exact out_tmp rfl rfl (Le.refl _) (by first | exact MLe.none _ | exact MLe.refl _ | (repeat' (first | exact MLe.nil | exact MLe.refl _ | refine MLe.cons _ ?_ | refine MLe.drop _ ?_))) ⟨⟨_, iff_f (fun e => by subst e; omega), rfl⟩, rfl⟩
set_option maxHeartbeats 4000000 in
set_option maxRecDepth 100000 in
theorem Equal_Ato (xs ys : List Ato) : BCall Try.prog 22 [.seq 2 (Ato.cellss xs), .seq 2 (Ato.cellss ys)] (xs = ys) := by
  have hlx := Ato.cellss_len xs
  have hly := Ato.cellss_len ys
  refine ACall.enter Try.func22 rfl (by kernel_rfl) rfl (Nat.le_of_ble_eq_true rfl) ?_
  refine c_start ?_
  refine c_lens (t := 0) rfl (.seq _ _) (fun hmax => ?_)
  refine c_seq ?_
  refine c_region ?_
  refine AOps.st 4 rfl rfl rfl (op_assign rfl rfl ?_)
  refine AOps.nil ?_
  refine go_code ?_
  refine c_seq ?_
  refine c_seq ?_
  refine c_region ?_
  refine AOps.st 6 rfl rfl rfl (op_move rfl rfl ?_)
  refine AOps.st 7 rfl rfl rfl (op_len rfl tu_42 rfl (.seq _ _) (fun n7 => ?_))
  refine AOps.st 8 rfl rfl rfl (op_move rfl rfl ?_)
  refine AOps.st 9 rfl rfl rfl (op_len rfl tu_42 rfl (.seq _ _) (fun n9 => ?_))
  refine AOps.st 10 rfl rfl rfl (op_neq rfl rfl rfl ?_); intro c10 h10
  refine AOps.nil ?_
  refine go_code ?_
  rcases bool_split h10 with ⟨rfl, g10⟩ | ⟨rfl, g10⟩
  · refine c_cond_f rfl ?_
    refine c_skip ?_
    refine go_code ?_
    refine c_seq ?_
    refine c_seq ?_
    refine c_region ?_
    refine AOps.st 11 rfl rfl rfl (op_move rfl rfl ?_)
    refine AOps.st 12 rfl rfl rfl (op_len rfl tu_42 rfl (.seq _ _) (fun n12 => ?_))
    refine AOps.st 13 rfl rfl rfl (op_move rfl rfl ?_)
    refine AOps.nil ?_
    refine go_code ?_
    refine c_block ?_
    apply c_loopkm [2, 3, 4, 5, 6, 7, 8, 9, 10, 11, 13, 14, 15, 16, 17, 18, 19, 20, 21, 22, 23, 24, 25] (σ := Nat) (fun zz => match zz with | i => [(13, .val (.int .i64 i))]) (fun zz => match zz with | i => i ≤ xs.length ∧ Upto xs ys i) (fun zz => match zz with | i => xs.length - i) (0)
    · repeat' (first | exact Drops.nil | apply Drops.keep rfl | apply Drops.skip rfl)
    · exact ⟨by omega, Upto.zero _ _⟩
    · exact (by repeat' (first | exact SLe.nil _ | refine SLe.cons rfl ?_ ?_ | exact Le.refl _ | exact Le.own _ _ _ | exact Le.nil _))
    rintro i hI
    try dsimp only [List.cons_append, List.nil_append] at hI ⊢
    obtain ⟨hi, hu⟩ := hI
    refine c_seq ?_
    refine c_region ?_
    refine AOps.st 14 rfl rfl rfl (op_lss rfl rfl rfl ?_); intro c14 h14
    refine AOps.nil ?_
    refine go_code ?_
    refine c_seq ?_
    rcases bool_split h14 with ⟨rfl, g14⟩ | ⟨rfl, g14⟩
    · refine c_cond_f rfl ?_
      refine c_exit ?_
      refine x_code ?_
      refine x_lp ?_
      refine x_here ?_
      refine go_code ?_
      refine c_seq ?_
      refine c_region ?_
      refine AOps.st 4 rfl rfl rfl (op_assign rfl rfl ?_)
      refine AOps.nil ?_
      refine go_code ?_
      refine c_ret ?_
      exact out_tmp rfl rfl (Le.refl _) (by first | exact MLe.none _ | exact MLe.refl _ | (repeat' (first | exact MLe.nil | exact MLe.refl _ | refine MLe.cons _ ?_ | refine MLe.drop _ ?_))) ⟨⟨_, iff_t (hu.eq (by omega) (by omega)), rfl⟩, rfl⟩
    · refine c_cond_t rfl ?_
      refine c_skip ?_
      refine go_code ?_
      refine c_seq ?_
      refine c_block ?_
      refine c_seq ?_
      obtain ⟨⟨xk, xn⟩, hxx⟩ := get_some (l := xs) (i := i) (by first | omega | (simp at *; omega))
      have hcx := Ato.cellss_get hxx
      have hmx := List.mem_of_getElem? hxx
      obtain ⟨⟨yk, yn⟩, hxy⟩ := get_some (l := ys) (i := i) (by first | omega | (simp at *; omega))
      have hcy := Ato.cellss_get hxy
      have hmy := List.mem_of_getElem? hxy
      refine c_region ?_
      refine AOps.st 15 rfl rfl rfl (op_move rfl rfl ?_)
      refine AOps.st 5 rfl rfl rfl (op_assign rfl rfl ?_)
      refine AOps.nil ?_
      refine go_code ?_
      refine c_seq ?_
      refine c_drawn tmix rfl ?_
      refine DOps.st 16 rfl rfl (op_move rfl rfl ⟨rfl, rfl⟩) ?_
      refine DOps.st 17 rfl rfl (op_move rfl rfl ⟨rfl, rfl⟩) ?_
      refine DOps.st 18 rfl rfl (op_index rfl te_42 rfl (.seq _ _) rfl rfl (by assumption) ⟨rfl, rfl⟩) ?_
      first | (refine DOps.st 19 rfl rfl (op_load_m (cs' := [_, _]) (i := 0) rfl ta_41 rfl rfl rfl rfl ⟨rfl, rfl⟩) ?_) | (refine DOps.st 19 rfl rfl (op_load_m (cs' := [_, _]) (i := 1) rfl ta_41 rfl rfl rfl rfl ⟨rfl, rfl⟩) ?_) | (refine DOps.st 19 rfl rfl (op_load_m (cs' := [_, _]) (i := 2) rfl ta_41 rfl rfl rfl rfl ⟨rfl, rfl⟩) ?_) | (refine DOps.st 19 rfl rfl (op_load_m (cs' := [_, _]) (i := 3) rfl ta_41 rfl rfl rfl rfl ⟨rfl, rfl⟩) ?_) | (refine DOps.st 19 rfl rfl (op_load_m (cs' := [_, _]) (i := 4) rfl ta_41 rfl rfl rfl rfl ⟨rfl, rfl⟩) ?_) | (refine DOps.st 19 rfl rfl (op_load_m (cs' := [_, _]) (i := 5) rfl ta_41 rfl rfl rfl rfl ⟨rfl, rfl⟩) ?_) | (refine DOps.st 19 rfl rfl (op_load_m (cs' := [_, _]) (i := 6) rfl ta_41 rfl rfl rfl rfl ⟨rfl, rfl⟩) ?_) | (refine DOps.st 19 rfl rfl (op_load_m (cs' := [_, _]) (i := 7) rfl ta_41 rfl rfl rfl rfl ⟨rfl, rfl⟩) ?_) | (refine DOps.st 19 rfl rfl (op_load_m (cs' := [_, _]) (i := 8) rfl ta_41 rfl rfl rfl rfl ⟨rfl, rfl⟩) ?_) | (refine DOps.st 19 rfl rfl (op_load_m (cs' := [_, _]) (i := 9) rfl ta_41 rfl rfl rfl rfl ⟨rfl, rfl⟩) ?_) | (refine DOps.st 19 rfl rfl (op_load_c (cs' := [_, _]) rfl ta_41 rfl rfl rfl ⟨rfl, rfl⟩) ?_)
      refine DOps.st 20 rfl rfl (op_move rfl rfl ⟨rfl, rfl⟩) ?_
      refine DOps.st 21 rfl rfl (op_move rfl rfl ⟨rfl, rfl⟩) ?_
      refine DOps.st 22 rfl rfl (op_index rfl te_42 rfl (.seq _ _) rfl rfl (by assumption) ⟨rfl, rfl⟩) ?_
      first | (refine DOps.st 23 rfl rfl (op_load_m (cs' := [_, _]) (i := 0) rfl ta_41 rfl rfl rfl rfl ⟨rfl, rfl⟩) ?_) | (refine DOps.st 23 rfl rfl (op_load_m (cs' := [_, _]) (i := 1) rfl ta_41 rfl rfl rfl rfl ⟨rfl, rfl⟩) ?_) | (refine DOps.st 23 rfl rfl (op_load_m (cs' := [_, _]) (i := 2) rfl ta_41 rfl rfl rfl rfl ⟨rfl, rfl⟩) ?_) | (refine DOps.st 23 rfl rfl (op_load_m (cs' := [_, _]) (i := 3) rfl ta_41 rfl rfl rfl rfl ⟨rfl, rfl⟩) ?_) | (refine DOps.st 23 rfl rfl (op_load_m (cs' := [_, _]) (i := 4) rfl ta_41 rfl rfl rfl rfl ⟨rfl, rfl⟩) ?_) | (refine DOps.st 23 rfl rfl (op_load_m (cs' := [_, _]) (i := 5) rfl ta_41 rfl rfl rfl rfl ⟨rfl, rfl⟩) ?_) | (refine DOps.st 23 rfl rfl (op_load_m (cs' := [_, _]) (i := 6) rfl ta_41 rfl rfl rfl rfl ⟨rfl, rfl⟩) ?_) | (refine DOps.st 23 rfl rfl (op_load_m (cs' := [_, _]) (i := 7) rfl ta_41 rfl rfl rfl rfl ⟨rfl, rfl⟩) ?_) | (refine DOps.st 23 rfl rfl (op_load_m (cs' := [_, _]) (i := 8) rfl ta_41 rfl rfl rfl rfl ⟨rfl, rfl⟩) ?_) | (refine DOps.st 23 rfl rfl (op_load_m (cs' := [_, _]) (i := 9) rfl ta_41 rfl rfl rfl rfl ⟨rfl, rfl⟩) ?_) | (refine DOps.st 23 rfl rfl (op_load_c (cs' := [_, _]) rfl ta_41 rfl rfl rfl ⟨rfl, rfl⟩) ?_)
      refine DOps.cm 24 rfl rfl (fun _ q => op_aneq (a := [xk, xn]) (b := [yk, yn]) eqT_ato rfl rfl rfl rfl rfl q) ?_; intro c24 h24
      show AGo _ _ _ _ _ _ _
      refine go_code ?_
      rcases bool_split h24 with ⟨rfl, g24⟩ | ⟨rfl, g24⟩
      · refine c_cond_f rfl ?_
        refine c_skip ?_
        refine go_blk ?_
        refine go_code ?_
        refine c_region ?_
        refine AOps.st 25 rfl rfl rfl (op_add rfl rfl rfl (IntWalk.i64_in _ (by omega)) ?_)
        refine AOps.st 13 rfl rfl rfl (op_move rfl rfl ?_)
        refine AOps.nil ?_
        refine go_lp ?_
        exact ⟨i + 1, ⟨by omega, hu.succ hxx hxy (by have := Classical.not_not.1 g24; simpa using this)⟩, by simp; omega, (by repeat' (first | exact SLe.nil _ | refine SLe.cons rfl ?_ ?_ | exact Le.refl _ | exact Le.own _ _ _ | exact Le.nil _)), (by first | exact MLe.none _ | exact MLe.refl _ | (repeat' (first | exact MLe.nil | exact MLe.refl _ | refine MLe.cons _ ?_ | refine MLe.drop _ ?_)))⟩
      · refine c_cond_t rfl ?_
        refine c_seq ?_
        refine c_region ?_
        refine AOps.st 4 rfl rfl rfl (op_assign rfl rfl ?_)
        refine AOps.nil ?_
        refine go_code ?_
        refine c_ret ?_
        exact out_tmp rfl rfl (Le.refl _) (by first | exact MLe.none _ | exact MLe.refl _ | (repeat' (first | exact MLe.nil | exact MLe.refl _ | refine MLe.cons _ ?_ | refine MLe.drop _ ?_))) ⟨⟨_, iff_f (fun e => g24 (by subst e; rw [hxx] at hxy; cases hxy; rfl)), rfl⟩, rfl⟩
  · refine c_cond_t rfl ?_
    refine c_seq ?_
    refine c_region ?_
    refine AOps.st 4 rfl rfl rfl (op_assign rfl rfl ?_)
    refine AOps.nil ?_
    refine go_code ?_
    refine c_ret ?_
    exact out_tmp rfl rfl (Le.refl _) (by first | exact MLe.none _ | exact MLe.refl _ | (repeat' (first | exact MLe.nil | exact MLe.refl _ | refine MLe.cons _ ?_ | refine MLe.drop _ ?_))) ⟨⟨_, iff_f (fun e => by subst e; omega), rfl⟩, rfl⟩
set_option maxHeartbeats 4000000 in
set_option maxRecDepth 100000 in
theorem Equal_Cf (xs ys : List Cf) : BCall Try.prog 27 [.seq 3 (Cf.cellss xs), .seq 3 (Cf.cellss ys)] (xs = ys) := by
  have hlx := Cf.cellss_len xs
  have hly := Cf.cellss_len ys
  refine ACall.enter Try.func27 rfl (by kernel_rfl) rfl (Nat.le_of_ble_eq_true rfl) ?_
  refine c_start ?_
  refine c_lens (t := 0) rfl (.seq _ _) (fun hmax => ?_)
  refine c_seq ?_
  refine c_region ?_
  refine AOps.st 4 rfl rfl rfl (op_assign rfl rfl ?_)
  refine AOps.nil ?_
  refine go_code ?_
  refine c_seq ?_
  refine c_seq ?_
  refine c_region ?_
  refine AOps.st 6 rfl rfl rfl (op_move rfl rfl ?_)
  refine AOps.st 7 rfl rfl rfl (op_len rfl tu_23 rfl (.seq _ _) (fun n7 => ?_))
  refine AOps.st 8 rfl rfl rfl (op_move rfl rfl ?_)
  refine AOps.st 9 rfl rfl rfl (op_len rfl tu_23 rfl (.seq _ _) (fun n9 => ?_))
  refine AOps.st 10 rfl rfl rfl (op_neq rfl rfl rfl ?_); intro c10 h10
  refine AOps.nil ?_
  refine go_code ?_
  rcases bool_split h10 with ⟨rfl, g10⟩ | ⟨rfl, g10⟩
  · refine c_cond_f rfl ?_
    refine c_skip ?_
    refine go_code ?_
    refine c_seq ?_
    refine c_seq ?_
    refine c_region ?_
    refine AOps.st 11 rfl rfl rfl (op_move rfl rfl ?_)
    refine AOps.st 12 rfl rfl rfl (op_len rfl tu_23 rfl (.seq _ _) (fun n12 => ?_))
    refine AOps.st 13 rfl rfl rfl (op_move rfl rfl ?_)
    refine AOps.nil ?_
    refine go_code ?_
    refine c_block ?_
    apply c_loopkm [2, 3, 4, 5, 6, 7, 8, 9, 10, 11, 13, 14, 15, 16, 17, 18, 19, 20, 21, 22, 23, 24, 25] (σ := Nat) (fun zz => match zz with | i => [(13, .val (.int .i64 i))]) (fun zz => match zz with | i => i ≤ xs.length ∧ Upto xs ys i) (fun zz => match zz with | i => xs.length - i) (0)
    · repeat' (first | exact Drops.nil | apply Drops.keep rfl | apply Drops.skip rfl)
    · exact ⟨by omega, Upto.zero _ _⟩
    · exact (by repeat' (first | exact SLe.nil _ | refine SLe.cons rfl ?_ ?_ | exact Le.refl _ | exact Le.own _ _ _ | exact Le.nil _))
    rintro i hI
    try dsimp only [List.cons_append, List.nil_append] at hI ⊢
    obtain ⟨hi, hu⟩ := hI
    refine c_seq ?_
    refine c_region ?_
    refine AOps.st 14 rfl rfl rfl (op_lss rfl rfl rfl ?_); intro c14 h14
    refine AOps.nil ?_
    refine go_code ?_
    refine c_seq ?_
    rcases bool_split h14 with ⟨rfl, g14⟩ | ⟨rfl, g14⟩
    · refine c_cond_f rfl ?_
      refine c_exit ?_
      refine x_code ?_
      refine x_lp ?_
      refine x_here ?_
      refine go_code ?_
      refine c_seq ?_
      refine c_region ?_
      refine AOps.st 4 rfl rfl rfl (op_assign rfl rfl ?_)
      refine AOps.nil ?_
      refine go_code ?_
      refine c_ret ?_
      exact out_tmp rfl rfl (Le.refl _) (by first | exact MLe.none _ | exact MLe.refl _ | (repeat' (first | exact MLe.nil | exact MLe.refl _ | refine MLe.cons _ ?_ | refine MLe.drop _ ?_))) ⟨⟨_, iff_t (hu.eq (by omega) (by omega)), rfl⟩, rfl⟩
    · refine c_cond_t rfl ?_
      refine c_skip ?_
      refine go_code ?_
      refine c_seq ?_
      refine c_block ?_
      refine c_seq ?_
      obtain ⟨⟨xlen, xsl, xcp⟩, hxx⟩ := get_some (l := xs) (i := i) (by first | omega | (simp at *; omega))
      have hcx := Cf.cellss_get hxx
      have hmx := List.mem_of_getElem? hxx
      obtain ⟨⟨ylen, ysl, ycp⟩, hxy⟩ := get_some (l := ys) (i := i) (by first | omega | (simp at *; omega))
      have hcy := Cf.cellss_get hxy
      have hmy := List.mem_of_getElem? hxy
      refine c_region ?_
      refine AOps.st 15 rfl rfl rfl (op_move rfl rfl ?_)
      refine AOps.st 5 rfl rfl rfl (op_assign rfl rfl ?_)
      refine AOps.nil ?_
      refine go_code ?_
      refine c_seq ?_
      refine c_drawn tmix rfl ?_
      refine DOps.st 16 rfl rfl (op_move rfl rfl ⟨rfl, rfl⟩) ?_
      refine DOps.st 17 rfl rfl (op_move rfl rfl ⟨rfl, rfl⟩) ?_
      refine DOps.st 18 rfl rfl (op_index rfl te_23 rfl (.seq _ _) rfl rfl (by assumption) ⟨rfl, rfl⟩) ?_
      first | (refine DOps.st 19 rfl rfl (op_load_m (cs' := [_, _, _]) (i := 0) rfl ta_39 rfl rfl rfl rfl ⟨rfl, rfl⟩) ?_) | (refine DOps.st 19 rfl rfl (op_load_m (cs' := [_, _, _]) (i := 1) rfl ta_39 rfl rfl rfl rfl ⟨rfl, rfl⟩) ?_) | (refine DOps.st 19 rfl rfl (op_load_m (cs' := [_, _, _]) (i := 2) rfl ta_39 rfl rfl rfl rfl ⟨rfl, rfl⟩) ?_) | (refine DOps.st 19 rfl rfl (op_load_m (cs' := [_, _, _]) (i := 3) rfl ta_39 rfl rfl rfl rfl ⟨rfl, rfl⟩) ?_) | (refine DOps.st 19 rfl rfl (op_load_m (cs' := [_, _, _]) (i := 4) rfl ta_39 rfl rfl rfl rfl ⟨rfl, rfl⟩) ?_) | (refine DOps.st 19 rfl rfl (op_load_m (cs' := [_, _, _]) (i := 5) rfl ta_39 rfl rfl rfl rfl ⟨rfl, rfl⟩) ?_) | (refine DOps.st 19 rfl rfl (op_load_m (cs' := [_, _, _]) (i := 6) rfl ta_39 rfl rfl rfl rfl ⟨rfl, rfl⟩) ?_) | (refine DOps.st 19 rfl rfl (op_load_m (cs' := [_, _, _]) (i := 7) rfl ta_39 rfl rfl rfl rfl ⟨rfl, rfl⟩) ?_) | (refine DOps.st 19 rfl rfl (op_load_m (cs' := [_, _, _]) (i := 8) rfl ta_39 rfl rfl rfl rfl ⟨rfl, rfl⟩) ?_) | (refine DOps.st 19 rfl rfl (op_load_m (cs' := [_, _, _]) (i := 9) rfl ta_39 rfl rfl rfl rfl ⟨rfl, rfl⟩) ?_) | (refine DOps.st 19 rfl rfl (op_load_c (cs' := [_, _, _]) rfl ta_39 rfl rfl rfl ⟨rfl, rfl⟩) ?_)
      refine DOps.st 20 rfl rfl (op_move rfl rfl ⟨rfl, rfl⟩) ?_
      refine DOps.st 21 rfl rfl (op_move rfl rfl ⟨rfl, rfl⟩) ?_
      refine DOps.st 22 rfl rfl (op_index rfl te_23 rfl (.seq _ _) rfl rfl (by assumption) ⟨rfl, rfl⟩) ?_
      first | (refine DOps.st 23 rfl rfl (op_load_m (cs' := [_, _, _]) (i := 0) rfl ta_39 rfl rfl rfl rfl ⟨rfl, rfl⟩) ?_) | (refine DOps.st 23 rfl rfl (op_load_m (cs' := [_, _, _]) (i := 1) rfl ta_39 rfl rfl rfl rfl ⟨rfl, rfl⟩) ?_) | (refine DOps.st 23 rfl rfl (op_load_m (cs' := [_, _, _]) (i := 2) rfl ta_39 rfl rfl rfl rfl ⟨rfl, rfl⟩) ?_) | (refine DOps.st 23 rfl rfl (op_load_m (cs' := [_, _, _]) (i := 3) rfl ta_39 rfl rfl rfl rfl ⟨rfl, rfl⟩) ?_) | (refine DOps.st 23 rfl rfl (op_load_m (cs' := [_, _, _]) (i := 4) rfl ta_39 rfl rfl rfl rfl ⟨rfl, rfl⟩) ?_) | (refine DOps.st 23 rfl rfl (op_load_m (cs' := [_, _, _]) (i := 5) rfl ta_39 rfl rfl rfl rfl ⟨rfl, rfl⟩) ?_) | (refine DOps.st 23 rfl rfl (op_load_m (cs' := [_, _, _]) (i := 6) rfl ta_39 rfl rfl rfl rfl ⟨rfl, rfl⟩) ?_) | (refine DOps.st 23 rfl rfl (op_load_m (cs' := [_, _, _]) (i := 7) rfl ta_39 rfl rfl rfl rfl ⟨rfl, rfl⟩) ?_) | (refine DOps.st 23 rfl rfl (op_load_m (cs' := [_, _, _]) (i := 8) rfl ta_39 rfl rfl rfl rfl ⟨rfl, rfl⟩) ?_) | (refine DOps.st 23 rfl rfl (op_load_m (cs' := [_, _, _]) (i := 9) rfl ta_39 rfl rfl rfl rfl ⟨rfl, rfl⟩) ?_) | (refine DOps.st 23 rfl rfl (op_load_c (cs' := [_, _, _]) rfl ta_39 rfl rfl rfl ⟨rfl, rfl⟩) ?_)
      refine DOps.cm 24 rfl rfl (fun _ q => op_aneq (a := [xlen, xsl, xcp]) (b := [ylen, ysl, ycp]) eqT_cf rfl rfl rfl rfl rfl q) ?_; intro c24 h24
      show AGo _ _ _ _ _ _ _
      refine go_code ?_
      rcases bool_split h24 with ⟨rfl, g24⟩ | ⟨rfl, g24⟩
      · refine c_cond_f rfl ?_
        refine c_skip ?_
        refine go_blk ?_
        refine go_code ?_
        refine c_region ?_
        refine AOps.st 25 rfl rfl rfl (op_add rfl rfl rfl (IntWalk.i64_in _ (by omega)) ?_)
        refine AOps.st 13 rfl rfl rfl (op_move rfl rfl ?_)
        refine AOps.nil ?_
        refine go_lp ?_
        exact ⟨i + 1, ⟨by omega, hu.succ hxx hxy (by have := Classical.not_not.1 g24; simpa using this)⟩, by simp; omega, (by repeat' (first | exact SLe.nil _ | refine SLe.cons rfl ?_ ?_ | exact Le.refl _ | exact Le.own _ _ _ | exact Le.nil _)), (by first | exact MLe.none _ | exact MLe.refl _ | (repeat' (first | exact MLe.nil | exact MLe.refl _ | refine MLe.cons _ ?_ | refine MLe.drop _ ?_)))⟩
      · refine c_cond_t rfl ?_
        refine c_seq ?_
        refine c_region ?_
        refine AOps.st 4 rfl rfl rfl (op_assign rfl rfl ?_)
        refine AOps.nil ?_
        refine go_code ?_
        refine c_ret ?_
        exact out_tmp rfl rfl (Le.refl _) (by first | exact MLe.none _ | exact MLe.refl _ | (repeat' (first | exact MLe.nil | exact MLe.refl _ | refine MLe.cons _ ?_ | refine MLe.drop _ ?_))) ⟨⟨_, iff_f (fun e => g24 (by subst e; rw [hxx] at hxy; cases hxy; rfl)), rfl⟩, rfl⟩
  · refine c_cond_t rfl ?_
    refine c_seq ?_
    refine c_region ?_
    refine AOps.st 4 rfl rfl rfl (op_assign rfl rfl ?_)
    refine AOps.nil ?_
    refine go_code ?_
    refine c_ret ?_
    exact out_tmp rfl rfl (Le.refl _) (by first | exact MLe.none _ | exact MLe.refl _ | (repeat' (first | exact MLe.nil | exact MLe.refl _ | refine MLe.cons _ ?_ | refine MLe.drop _ ?_))) ⟨⟨_, iff_f (fun e => by subst e; omega), rfl⟩, rfl⟩
set_option maxHeartbeats 4000000 in
set_option maxRecDepth 100000 in
theorem sameAtoms_c (xs ys : List Ato) : BCall Try.prog 21 [.seq 2 (Ato.cellss xs), .seq 2 (Ato.cellss ys)] (xs = ys) := by
  refine ACall.enter Try.func21 rfl (by kernel_rfl) rfl (Nat.le_of_ble_eq_true rfl) ?_
  refine c_start ?_
  refine c_seq ?_
  refine c_region ?_
  refine AOps.st 4 rfl rfl rfl (op_assign rfl rfl ?_)
  refine AOps.nil ?_
  refine go_code ?_
  refine c_seq ?_
  refine c_region ?_
  refine AOps.st 5 rfl rfl rfl (op_move rfl rfl ?_)
  refine AOps.st 6 rfl rfl rfl (op_move rfl rfl ?_)
  refine AOps.st 7 rfl rfl rfl (op_callb (xs := [.tmp 5, .tmp 6]) rfl rfl (Equal_Ato xs ys) (by first | exact Les.refl _ | (repeat' (first | exact Les.refl _ | refine Les.cons ?_ ?_ | exact Le.refl _ | exact Le.own _ _ _ | exact Le.nil _ | refine Le.agg ?_))) ?_); intro c7 h7
  refine AOps.st 4 rfl rfl rfl (op_assign rfl rfl ?_)
  refine AOps.nil ?_
  refine go_code ?_
  refine c_ret ?_
  exact out_tmp rfl rfl (Le.refl _) (by first | exact MLe.none _ | exact MLe.refl _ | (repeat' (first | exact MLe.nil | exact MLe.refl _ | refine MLe.cons _ ?_ | refine MLe.drop _ ?_))) ⟨⟨_, h7, rfl⟩, rfl⟩
set_option maxHeartbeats 4000000 in
set_option maxRecDepth 100000 in
theorem EqF_Caps (xs ys : List (List Ato)) : BCall Try.prog 25 [.seq 1 (Ato.cellsss xs), .seq 1 (Ato.cellsss ys), .clo (.func 21) [] []] (xs = ys) := by
  have hlx := Ato.cellsss_len xs
  have hly := Ato.cellsss_len ys
  refine ACall.enter Try.func25 rfl (by kernel_rfl) rfl (Nat.le_of_ble_eq_true rfl) ?_
  refine c_start ?_
  refine c_lens (t := 0) rfl (.seq _ _) (fun hmax => ?_)
  refine c_seq ?_
  refine c_region ?_
  refine AOps.st 6 rfl rfl rfl (op_assign rfl rfl ?_)
  refine AOps.nil ?_
  refine go_code ?_
  refine c_seq ?_
  refine c_seq ?_
  refine c_region ?_
  refine AOps.st 10 rfl rfl rfl (op_move rfl rfl ?_)
  refine AOps.st 11 rfl rfl rfl (op_len rfl tu_44 rfl (.seq _ _) (fun n11 => ?_))
  refine AOps.st 12 rfl rfl rfl (op_move rfl rfl ?_)
  refine AOps.st 13 rfl rfl rfl (op_len rfl tu_44 rfl (.seq _ _) (fun n13 => ?_))
  refine AOps.st 14 rfl rfl rfl (op_neq rfl rfl rfl ?_); intro c14 h14
  refine AOps.nil ?_
  refine go_code ?_
  rcases bool_split h14 with ⟨rfl, g14⟩ | ⟨rfl, g14⟩
  · refine c_cond_f rfl ?_
    refine c_skip ?_
    refine go_code ?_
    refine c_seq ?_
    refine c_seq ?_
    refine c_region ?_
    refine AOps.st 15 rfl rfl rfl (op_move rfl rfl ?_)
    refine AOps.st 16 rfl rfl rfl (op_len rfl tu_44 rfl (.seq _ _) (fun n16 => ?_))
    refine AOps.st 17 rfl rfl rfl (op_move rfl rfl ?_)
    refine AOps.nil ?_
    refine go_code ?_
    refine c_block ?_
    apply c_loopkm [0, 3, 4, 5, 6, 7, 8, 9, 10, 11, 12, 13, 14, 17, 18, 19, 20, 21, 22, 23, 24, 25, 26, 27, 28, 29, 30, 31] (σ := Nat) (fun zz => match zz with | i => [(17, .val (.int .i64 i))]) (fun zz => match zz with | i => i ≤ xs.length ∧ Upto xs ys i) (fun zz => match zz with | i => xs.length - i) (0)
    · repeat' (first | exact Drops.nil | apply Drops.keep rfl | apply Drops.skip rfl)
    · exact ⟨by omega, Upto.zero _ _⟩
    · exact (by repeat' (first | exact SLe.nil _ | refine SLe.cons rfl ?_ ?_ | exact Le.refl _ | exact Le.own _ _ _ | exact Le.nil _))
    rintro i hI
    try dsimp only [List.cons_append, List.nil_append] at hI ⊢
    obtain ⟨hi, hu⟩ := hI
    refine c_seq ?_
    refine c_region ?_
    refine AOps.st 18 rfl rfl rfl (op_lss rfl rfl rfl ?_); intro c18 h18
    refine AOps.nil ?_
    refine go_code ?_
    refine c_seq ?_
    rcases bool_split h18 with ⟨rfl, g18⟩ | ⟨rfl, g18⟩
    · refine c_cond_f rfl ?_
      refine c_exit ?_
      refine x_code ?_
      refine x_lp ?_
      refine x_here ?_
      refine go_code ?_
      refine c_seq ?_
      refine c_region ?_
      refine AOps.st 6 rfl rfl rfl (op_assign rfl rfl ?_)
      refine AOps.nil ?_
      refine go_code ?_
      refine c_ret ?_
      exact out_tmp rfl rfl (Le.refl _) (by first | exact MLe.none _ | exact MLe.refl _ | (repeat' (first | exact MLe.nil | exact MLe.refl _ | refine MLe.cons _ ?_ | refine MLe.drop _ ?_))) ⟨⟨_, iff_t (hu.eq (by omega) (by omega)), rfl⟩, rfl⟩
    · refine c_cond_t rfl ?_
      refine c_skip ?_
      refine go_code ?_
      refine c_seq ?_
      refine c_block ?_
      refine c_seq ?_
      obtain ⟨x, hx⟩ := get_some (l := xs) (i := i) (by omega)
      obtain ⟨y, hy⟩ := get_some (l := ys) (i := i) (by omega)
      have hcx := Ato.cellsss_get hx
      have hcy := Ato.cellsss_get hy
      refine c_region ?_
      refine AOps.st 19 rfl rfl rfl (op_move rfl rfl ?_)
      refine AOps.st 20 rfl rfl rfl (op_index rfl te_44 rfl (.seq _ _) rfl rfl (by assumption) ?_)
      first | (refine AOps.st 21 rfl rfl rfl (op_load_m1 (i := 0) rfl ta_42 rfl rfl rfl ?_)) | (refine AOps.st 21 rfl rfl rfl (op_load_m1 (i := 1) rfl ta_42 rfl rfl rfl ?_)) | (refine AOps.st 21 rfl rfl rfl (op_load_m1 (i := 2) rfl ta_42 rfl rfl rfl ?_)) | (refine AOps.st 21 rfl rfl rfl (op_load_m1 (i := 3) rfl ta_42 rfl rfl rfl ?_)) | (refine AOps.st 21 rfl rfl rfl (op_load_m1 (i := 4) rfl ta_42 rfl rfl rfl ?_)) | (refine AOps.st 21 rfl rfl rfl (op_load_m1 (i := 5) rfl ta_42 rfl rfl rfl ?_)) | (refine AOps.st 21 rfl rfl rfl (op_load_m1 (i := 6) rfl ta_42 rfl rfl rfl ?_)) | (refine AOps.st 21 rfl rfl rfl (op_load_m1 (i := 7) rfl ta_42 rfl rfl rfl ?_)) | (refine AOps.st 21 rfl rfl rfl (op_load_m1 (i := 8) rfl ta_42 rfl rfl rfl ?_)) | (refine AOps.st 21 rfl rfl rfl (op_load_m1 (i := 9) rfl ta_42 rfl rfl rfl ?_)) | (refine AOps.st 21 rfl rfl rfl (op_load_c1 rfl ta_42 rfl rfl ?_))
      refine AOps.st 7 rfl rfl rfl (op_assign rfl rfl ?_)
      refine AOps.st 8 rfl rfl rfl (op_assign rfl rfl ?_)
      refine AOps.nil ?_
      refine go_code ?_
      refine c_seq ?_
      refine c_region ?_
      refine AOps.st 22 rfl rfl rfl (op_move rfl rfl ?_)
      refine AOps.st 23 rfl rfl rfl (op_move rfl rfl ?_)
      refine AOps.st 24 rfl rfl rfl (op_index rfl te_44 rfl (.seq _ _) rfl rfl (by assumption) ?_)
      first | (refine AOps.st 25 rfl rfl rfl (op_load_m1 (i := 0) rfl ta_42 rfl rfl rfl ?_)) | (refine AOps.st 25 rfl rfl rfl (op_load_m1 (i := 1) rfl ta_42 rfl rfl rfl ?_)) | (refine AOps.st 25 rfl rfl rfl (op_load_m1 (i := 2) rfl ta_42 rfl rfl rfl ?_)) | (refine AOps.st 25 rfl rfl rfl (op_load_m1 (i := 3) rfl ta_42 rfl rfl rfl ?_)) | (refine AOps.st 25 rfl rfl rfl (op_load_m1 (i := 4) rfl ta_42 rfl rfl rfl ?_)) | (refine AOps.st 25 rfl rfl rfl (op_load_m1 (i := 5) rfl ta_42 rfl rfl rfl ?_)) | (refine AOps.st 25 rfl rfl rfl (op_load_m1 (i := 6) rfl ta_42 rfl rfl rfl ?_)) | (refine AOps.st 25 rfl rfl rfl (op_load_m1 (i := 7) rfl ta_42 rfl rfl rfl ?_)) | (refine AOps.st 25 rfl rfl rfl (op_load_m1 (i := 8) rfl ta_42 rfl rfl rfl ?_)) | (refine AOps.st 25 rfl rfl rfl (op_load_m1 (i := 9) rfl ta_42 rfl rfl rfl ?_)) | (refine AOps.st 25 rfl rfl rfl (op_load_c1 rfl ta_42 rfl rfl ?_))
      refine AOps.st 9 rfl rfl rfl (op_assign rfl rfl ?_)
      refine AOps.nil ?_
      refine go_code ?_
      refine c_seq ?_
      refine c_region ?_
      refine AOps.st 26 rfl rfl rfl (op_move rfl rfl ?_)
      refine AOps.st 27 rfl rfl rfl (op_move rfl rfl ?_)
      refine AOps.st 28 rfl rfl rfl (op_move rfl rfl ?_)
      refine AOps.st 29 rfl rfl rfl (op_callvb (xs := [.tmp 27, .tmp 28]) rfl rfl rfl (sameAtoms_c x y) (by first | exact Les.refl _ | (repeat' (first | exact Les.refl _ | refine Les.cons ?_ ?_ | exact Le.refl _ | exact Le.own _ _ _ | exact Le.nil _ | refine Le.agg ?_))) ?_); intro c29 h29
      refine AOps.st 30 rfl rfl rfl (op_notc rfl rfl ?_); intro c30 h30
      try replace h30 := nott h30 h29
      refine AOps.nil ?_
      refine go_code ?_
      rcases bool_split h30 with ⟨rfl, g30⟩ | ⟨rfl, g30⟩
      · refine c_cond_f rfl ?_
        refine c_skip ?_
        refine go_blk ?_
        refine go_code ?_
        refine c_region ?_
        refine AOps.st 31 rfl rfl rfl (op_add rfl rfl rfl (IntWalk.i64_in _ (by omega)) ?_)
        refine AOps.st 17 rfl rfl rfl (op_move rfl rfl ?_)
        refine AOps.nil ?_
        refine go_lp ?_
        exact ⟨i + 1, ⟨by omega, hu.succ hx hy (Classical.not_not.1 g30)⟩, by simp; omega, (by repeat' (first | exact SLe.nil _ | refine SLe.cons rfl ?_ ?_ | exact Le.refl _ | exact Le.own _ _ _ | exact Le.nil _)), (by first | exact MLe.none _ | exact MLe.refl _ | (repeat' (first | exact MLe.nil | exact MLe.refl _ | refine MLe.cons _ ?_ | refine MLe.drop _ ?_)))⟩
      · refine c_cond_t rfl ?_
        refine c_seq ?_
        refine c_region ?_
        refine AOps.st 6 rfl rfl rfl (op_assign rfl rfl ?_)
        refine AOps.nil ?_
        refine go_code ?_
        refine c_ret ?_
        exact out_tmp rfl rfl (Le.refl _) (by first | exact MLe.none _ | exact MLe.refl _ | (repeat' (first | exact MLe.nil | exact MLe.refl _ | refine MLe.cons _ ?_ | refine MLe.drop _ ?_))) ⟨⟨_, iff_f (fun e => g30 (by subst e; rw [hx] at hy; cases hy; rfl)), rfl⟩, rfl⟩
  · refine c_cond_t rfl ?_
    refine c_seq ?_
    refine c_region ?_
    refine AOps.st 6 rfl rfl rfl (op_assign rfl rfl ?_)
    refine AOps.nil ?_
    refine go_code ?_
    refine c_ret ?_
    exact out_tmp rfl rfl (Le.refl _) (by first | exact MLe.none _ | exact MLe.refl _ | (repeat' (first | exact MLe.nil | exact MLe.refl _ | refine MLe.cons _ ?_ | refine MLe.drop _ ?_))) ⟨⟨_, iff_f (fun e => by subst e; omega), rfl⟩, rfl⟩
set_option maxHeartbeats 4000000 in
set_option maxRecDepth 100000 in
theorem sameIns_c (a b : Is) : BCall Try.prog 23 [.agg a.cells, .agg b.cells, .cptr [.clo (.func 21) [] []]] (a = b) := by
  obtain ⟨op1, a1, b1, n1, ar1, fs1, cp1⟩ := a
  obtain ⟨op2, a2, b2, n2, ar2, fs2, cp2⟩ := b
  refine ACall.enter Try.func23 rfl (by kernel_rfl) rfl (Nat.le_of_ble_eq_true rfl) ?_
  refine c_start ?_
  refine c_seq ?_
  refine c_region ?_
  refine AOps.st 3 rfl rfl rfl (op_boxc (cs' := [_, _, _, _, _, _, _]) rfl rfl rfl rfl ?_)
  refine AOps.st 4 rfl rfl rfl (op_boxc (cs' := [_, _, _, _, _, _, _]) rfl rfl rfl rfl ?_)
  refine AOps.st 5 rfl rfl rfl (op_assign rfl rfl ?_)
  refine AOps.nil ?_
  refine go_code ?_
  refine c_seq ?_
  refine c_bool 5 (op1 = op2 ∧ a1 = a2 ∧ b1 = b2 ∧ n1 = n2 ∧ ar1 = ar2 ∧ fs1 = fs2 ∧ cp1 = cp2) ?_ _ _ rfl ?_
  · skip
    refine AOps.st 6 rfl rfl rfl (op_fieldAddr_c rfl tf_46_0 rfl rfl ?_)
    refine AOps.st 7 rfl rfl rfl (op_load_c1 rfl ta_3 rfl rfl ?_)
    refine AOps.st 8 rfl rfl rfl (op_fieldAddr_c rfl tf_46_0 rfl rfl ?_)
    refine AOps.st 9 rfl rfl rfl (op_load_c1 rfl ta_3 rfl rfl ?_)
    refine AOps.st 10 rfl rfl rfl (op_eql rfl rfl rfl ?_); intro c10 h10
    refine AOps.st 11 rfl rfl rfl (op_move rfl rfl ?_)
    rcases bool_split h10 with ⟨rfl, g10⟩ | ⟨rfl, g10⟩
    · skip
      refine AOps.gf 12 rfl rfl rfl rfl rfl ?_
      refine AOps.gf 13 rfl rfl rfl rfl rfl ?_
      refine AOps.gf 14 rfl rfl rfl rfl rfl ?_
      refine AOps.gf 15 rfl rfl rfl rfl rfl ?_
      refine AOps.gf 16 rfl rfl rfl rfl rfl ?_
      refine AOps.st 17 rfl rfl rfl (op_pick rfl rfl rfl ?_)
      refine AOps.st 18 rfl rfl rfl (op_move rfl rfl ?_)
      refine AOps.gf 19 rfl rfl rfl rfl rfl ?_
      refine AOps.gf 20 rfl rfl rfl rfl rfl ?_
      refine AOps.gf 21 rfl rfl rfl rfl rfl ?_
      refine AOps.gf 22 rfl rfl rfl rfl rfl ?_
      refine AOps.gf 23 rfl rfl rfl rfl rfl ?_
      refine AOps.st 24 rfl rfl rfl (op_pick rfl rfl rfl ?_)
      refine AOps.st 25 rfl rfl rfl (op_move rfl rfl ?_)
      refine AOps.gf 26 rfl rfl rfl rfl rfl ?_
      refine AOps.gf 27 rfl rfl rfl rfl rfl ?_
      refine AOps.gf 28 rfl rfl rfl rfl rfl ?_
      refine AOps.gf 29 rfl rfl rfl rfl rfl ?_
      refine AOps.gf 30 rfl rfl rfl rfl rfl ?_
      refine AOps.st 31 rfl rfl rfl (op_pick rfl rfl rfl ?_)
      refine AOps.st 32 rfl rfl rfl (op_move rfl rfl ?_)
      refine AOps.gf 33 rfl rfl rfl rfl rfl ?_
      refine AOps.gf 34 rfl rfl rfl rfl rfl ?_
      refine AOps.gf 35 rfl rfl rfl rfl rfl ?_
      refine AOps.gf 36 rfl rfl rfl rfl rfl ?_
      refine AOps.gf 37 rfl rfl rfl rfl rfl ?_
      refine AOps.st 38 rfl rfl rfl (op_pick rfl rfl rfl ?_)
      refine AOps.st 39 rfl rfl rfl (op_move rfl rfl ?_)
      refine AOps.gf 40 rfl rfl rfl rfl rfl ?_
      refine AOps.gf 41 rfl rfl rfl rfl rfl ?_
      refine AOps.gf 42 rfl rfl rfl rfl rfl ?_
      refine AOps.gf 43 rfl rfl rfl rfl rfl ?_
      refine AOps.gf 44 rfl rfl rfl rfl rfl ?_
      refine AOps.st 45 rfl rfl rfl (op_pick rfl rfl rfl ?_)
      refine AOps.st 46 rfl rfl rfl (op_move rfl rfl ?_)
      refine AOps.gf 47 rfl rfl rfl rfl rfl ?_
      refine AOps.gf 48 rfl rfl rfl rfl rfl ?_
      refine AOps.gf 49 rfl rfl rfl rfl rfl ?_
      refine AOps.gf 50 rfl rfl rfl rfl rfl ?_
      refine AOps.gf 51 rfl rfl rfl rfl rfl ?_
      refine AOps.gf 52 rfl rfl rfl rfl rfl ?_
      refine AOps.st 53 rfl rfl rfl (op_pick rfl rfl rfl ?_)
      refine AOps.st 5 rfl rfl rfl (op_assign rfl rfl ?_)
      refine AOps.nil ?_
      refine BoolQ.mk rfl ?_ (by repeat' (first | exact SLe.wo _ _ | exact SLe.refl _ | refine SLe.fresh rfl ?_)) (by first | exact MLe.none _ | exact MLe.refl _ | (repeat' (first | exact MLe.nil | exact MLe.refl _ | refine MLe.cons _ ?_ | refine MLe.drop _ ?_)))
      simp_all
    · skip
      refine AOps.gt 12 rfl rfl rfl rfl rfl (op_fieldAddr_c rfl tf_46_1 rfl rfl ?_)
      refine AOps.gt 13 rfl rfl rfl rfl rfl (op_load_c1 rfl ta_3 rfl rfl ?_)
      refine AOps.gt 14 rfl rfl rfl rfl rfl (op_fieldAddr_c rfl tf_46_1 rfl rfl ?_)
      refine AOps.gt 15 rfl rfl rfl rfl rfl (op_load_c1 rfl ta_3 rfl rfl ?_)
      refine AOps.gt 16 rfl rfl rfl rfl rfl (op_eql rfl rfl rfl ?_); intro c16 h16
      refine AOps.st 17 rfl rfl rfl (op_pick rfl rfl rfl ?_)
      refine AOps.st 18 rfl rfl rfl (op_move rfl rfl ?_)
      rcases bool_split h16 with ⟨rfl, g16⟩ | ⟨rfl, g16⟩
      · skip
        refine AOps.gf 19 rfl rfl rfl rfl rfl ?_
        refine AOps.gf 20 rfl rfl rfl rfl rfl ?_
        refine AOps.gf 21 rfl rfl rfl rfl rfl ?_
        refine AOps.gf 22 rfl rfl rfl rfl rfl ?_
        refine AOps.gf 23 rfl rfl rfl rfl rfl ?_
        refine AOps.st 24 rfl rfl rfl (op_pick rfl rfl rfl ?_)
        refine AOps.st 25 rfl rfl rfl (op_move rfl rfl ?_)
        refine AOps.gf 26 rfl rfl rfl rfl rfl ?_
        refine AOps.gf 27 rfl rfl rfl rfl rfl ?_
        refine AOps.gf 28 rfl rfl rfl rfl rfl ?_
        refine AOps.gf 29 rfl rfl rfl rfl rfl ?_
        refine AOps.gf 30 rfl rfl rfl rfl rfl ?_
        refine AOps.st 31 rfl rfl rfl (op_pick rfl rfl rfl ?_)
        refine AOps.st 32 rfl rfl rfl (op_move rfl rfl ?_)
        refine AOps.gf 33 rfl rfl rfl rfl rfl ?_
        refine AOps.gf 34 rfl rfl rfl rfl rfl ?_
        refine AOps.gf 35 rfl rfl rfl rfl rfl ?_
        refine AOps.gf 36 rfl rfl rfl rfl rfl ?_
        refine AOps.gf 37 rfl rfl rfl rfl rfl ?_
        refine AOps.st 38 rfl rfl rfl (op_pick rfl rfl rfl ?_)
        refine AOps.st 39 rfl rfl rfl (op_move rfl rfl ?_)
        refine AOps.gf 40 rfl rfl rfl rfl rfl ?_
        refine AOps.gf 41 rfl rfl rfl rfl rfl ?_
        refine AOps.gf 42 rfl rfl rfl rfl rfl ?_
        refine AOps.gf 43 rfl rfl rfl rfl rfl ?_
        refine AOps.gf 44 rfl rfl rfl rfl rfl ?_
        refine AOps.st 45 rfl rfl rfl (op_pick rfl rfl rfl ?_)
        refine AOps.st 46 rfl rfl rfl (op_move rfl rfl ?_)
        refine AOps.gf 47 rfl rfl rfl rfl rfl ?_
        refine AOps.gf 48 rfl rfl rfl rfl rfl ?_
        refine AOps.gf 49 rfl rfl rfl rfl rfl ?_
        refine AOps.gf 50 rfl rfl rfl rfl rfl ?_
        refine AOps.gf 51 rfl rfl rfl rfl rfl ?_
        refine AOps.gf 52 rfl rfl rfl rfl rfl ?_
        refine AOps.st 53 rfl rfl rfl (op_pick rfl rfl rfl ?_)
        refine AOps.st 5 rfl rfl rfl (op_assign rfl rfl ?_)
        refine AOps.nil ?_
        refine BoolQ.mk rfl ?_ (by repeat' (first | exact SLe.wo _ _ | exact SLe.refl _ | refine SLe.fresh rfl ?_)) (by first | exact MLe.none _ | exact MLe.refl _ | (repeat' (first | exact MLe.nil | exact MLe.refl _ | refine MLe.cons _ ?_ | refine MLe.drop _ ?_)))
        simp_all
      · skip
        refine AOps.gt 19 rfl rfl rfl rfl rfl (op_fieldAddr_c rfl tf_46_2 rfl rfl ?_)
        refine AOps.gt 20 rfl rfl rfl rfl rfl (op_load_c1 rfl ta_3 rfl rfl ?_)
        refine AOps.gt 21 rfl rfl rfl rfl rfl (op_fieldAddr_c rfl tf_46_2 rfl rfl ?_)
        refine AOps.gt 22 rfl rfl rfl rfl rfl (op_load_c1 rfl ta_3 rfl rfl ?_)
        refine AOps.gt 23 rfl rfl rfl rfl rfl (op_eql rfl rfl rfl ?_); intro c23 h23
        refine AOps.st 24 rfl rfl rfl (op_pick rfl rfl rfl ?_)
        refine AOps.st 25 rfl rfl rfl (op_move rfl rfl ?_)
        rcases bool_split h23 with ⟨rfl, g23⟩ | ⟨rfl, g23⟩
        · skip
          refine AOps.gf 26 rfl rfl rfl rfl rfl ?_
          refine AOps.gf 27 rfl rfl rfl rfl rfl ?_
          refine AOps.gf 28 rfl rfl rfl rfl rfl ?_
          refine AOps.gf 29 rfl rfl rfl rfl rfl ?_
          refine AOps.gf 30 rfl rfl rfl rfl rfl ?_
          refine AOps.st 31 rfl rfl rfl (op_pick rfl rfl rfl ?_)
          refine AOps.st 32 rfl rfl rfl (op_move rfl rfl ?_)
          refine AOps.gf 33 rfl rfl rfl rfl rfl ?_
          refine AOps.gf 34 rfl rfl rfl rfl rfl ?_
          refine AOps.gf 35 rfl rfl rfl rfl rfl ?_
          refine AOps.gf 36 rfl rfl rfl rfl rfl ?_
          refine AOps.gf 37 rfl rfl rfl rfl rfl ?_
          refine AOps.st 38 rfl rfl rfl (op_pick rfl rfl rfl ?_)
          refine AOps.st 39 rfl rfl rfl (op_move rfl rfl ?_)
          refine AOps.gf 40 rfl rfl rfl rfl rfl ?_
          refine AOps.gf 41 rfl rfl rfl rfl rfl ?_
          refine AOps.gf 42 rfl rfl rfl rfl rfl ?_
          refine AOps.gf 43 rfl rfl rfl rfl rfl ?_
          refine AOps.gf 44 rfl rfl rfl rfl rfl ?_
          refine AOps.st 45 rfl rfl rfl (op_pick rfl rfl rfl ?_)
          refine AOps.st 46 rfl rfl rfl (op_move rfl rfl ?_)
          refine AOps.gf 47 rfl rfl rfl rfl rfl ?_
          refine AOps.gf 48 rfl rfl rfl rfl rfl ?_
          refine AOps.gf 49 rfl rfl rfl rfl rfl ?_
          refine AOps.gf 50 rfl rfl rfl rfl rfl ?_
          refine AOps.gf 51 rfl rfl rfl rfl rfl ?_
          refine AOps.gf 52 rfl rfl rfl rfl rfl ?_
          refine AOps.st 53 rfl rfl rfl (op_pick rfl rfl rfl ?_)
          refine AOps.st 5 rfl rfl rfl (op_assign rfl rfl ?_)
          refine AOps.nil ?_
          refine BoolQ.mk rfl ?_ (by repeat' (first | exact SLe.wo _ _ | exact SLe.refl _ | refine SLe.fresh rfl ?_)) (by first | exact MLe.none _ | exact MLe.refl _ | (repeat' (first | exact MLe.nil | exact MLe.refl _ | refine MLe.cons _ ?_ | refine MLe.drop _ ?_)))
          simp_all
        · skip
          refine AOps.gt 26 rfl rfl rfl rfl rfl (op_fieldAddr_c rfl tf_46_3 rfl rfl ?_)
          refine AOps.gt 27 rfl rfl rfl rfl rfl (op_load_c1 rfl ta_2 rfl rfl ?_)
          refine AOps.gt 28 rfl rfl rfl rfl rfl (op_fieldAddr_c rfl tf_46_3 rfl rfl ?_)
          refine AOps.gt 29 rfl rfl rfl rfl rfl (op_load_c1 rfl ta_2 rfl rfl ?_)
          refine AOps.gt 30 rfl rfl rfl rfl rfl (op_eql rfl rfl rfl ?_); intro c30 h30
          refine AOps.st 31 rfl rfl rfl (op_pick rfl rfl rfl ?_)
          refine AOps.st 32 rfl rfl rfl (op_move rfl rfl ?_)
          rcases bool_split h30 with ⟨rfl, g30⟩ | ⟨rfl, g30⟩
          · skip
            refine AOps.gf 33 rfl rfl rfl rfl rfl ?_
            refine AOps.gf 34 rfl rfl rfl rfl rfl ?_
            refine AOps.gf 35 rfl rfl rfl rfl rfl ?_
            refine AOps.gf 36 rfl rfl rfl rfl rfl ?_
            refine AOps.gf 37 rfl rfl rfl rfl rfl ?_
            refine AOps.st 38 rfl rfl rfl (op_pick rfl rfl rfl ?_)
            refine AOps.st 39 rfl rfl rfl (op_move rfl rfl ?_)
            refine AOps.gf 40 rfl rfl rfl rfl rfl ?_
            refine AOps.gf 41 rfl rfl rfl rfl rfl ?_
            refine AOps.gf 42 rfl rfl rfl rfl rfl ?_
            refine AOps.gf 43 rfl rfl rfl rfl rfl ?_
            refine AOps.gf 44 rfl rfl rfl rfl rfl ?_
            refine AOps.st 45 rfl rfl rfl (op_pick rfl rfl rfl ?_)
            refine AOps.st 46 rfl rfl rfl (op_move rfl rfl ?_)
            refine AOps.gf 47 rfl rfl rfl rfl rfl ?_
            refine AOps.gf 48 rfl rfl rfl rfl rfl ?_
            refine AOps.gf 49 rfl rfl rfl rfl rfl ?_
            refine AOps.gf 50 rfl rfl rfl rfl rfl ?_
            refine AOps.gf 51 rfl rfl rfl rfl rfl ?_
            refine AOps.gf 52 rfl rfl rfl rfl rfl ?_
            refine AOps.st 53 rfl rfl rfl (op_pick rfl rfl rfl ?_)
            refine AOps.st 5 rfl rfl rfl (op_assign rfl rfl ?_)
            refine AOps.nil ?_
            refine BoolQ.mk rfl ?_ (by repeat' (first | exact SLe.wo _ _ | exact SLe.refl _ | refine SLe.fresh rfl ?_)) (by first | exact MLe.none _ | exact MLe.refl _ | (repeat' (first | exact MLe.nil | exact MLe.refl _ | refine MLe.cons _ ?_ | refine MLe.drop _ ?_)))
            simp_all
          · skip
            refine AOps.gt 33 rfl rfl rfl rfl rfl (op_fieldAddr_c rfl tf_46_4 rfl rfl ?_)
            refine AOps.gt 34 rfl rfl rfl rfl rfl (op_load_c1 rfl ta_42 rfl rfl ?_)
            refine AOps.gt 35 rfl rfl rfl rfl rfl (op_fieldAddr_c rfl tf_46_4 rfl rfl ?_)
            refine AOps.gt 36 rfl rfl rfl rfl rfl (op_load_c1 rfl ta_42 rfl rfl ?_)
            refine AOps.gt 37 rfl rfl rfl rfl rfl (op_callb (xs := [.tmp 34, .tmp 36]) rfl rfl (Equal_Ato ar1 ar2) (by first | exact Les.refl _ | (repeat' (first | exact Les.refl _ | refine Les.cons ?_ ?_ | exact Le.refl _ | exact Le.own _ _ _ | exact Le.nil _ | refine Le.agg ?_))) ?_); intro c37 h37
            refine AOps.st 38 rfl rfl rfl (op_pick rfl rfl rfl ?_)
            refine AOps.st 39 rfl rfl rfl (op_move rfl rfl ?_)
            rcases bool_split h37 with ⟨rfl, g37⟩ | ⟨rfl, g37⟩
            · skip
              refine AOps.gf 40 rfl rfl rfl rfl rfl ?_
              refine AOps.gf 41 rfl rfl rfl rfl rfl ?_
              refine AOps.gf 42 rfl rfl rfl rfl rfl ?_
              refine AOps.gf 43 rfl rfl rfl rfl rfl ?_
              refine AOps.gf 44 rfl rfl rfl rfl rfl ?_
              refine AOps.st 45 rfl rfl rfl (op_pick rfl rfl rfl ?_)
              refine AOps.st 46 rfl rfl rfl (op_move rfl rfl ?_)
              refine AOps.gf 47 rfl rfl rfl rfl rfl ?_
              refine AOps.gf 48 rfl rfl rfl rfl rfl ?_
              refine AOps.gf 49 rfl rfl rfl rfl rfl ?_
              refine AOps.gf 50 rfl rfl rfl rfl rfl ?_
              refine AOps.gf 51 rfl rfl rfl rfl rfl ?_
              refine AOps.gf 52 rfl rfl rfl rfl rfl ?_
              refine AOps.st 53 rfl rfl rfl (op_pick rfl rfl rfl ?_)
              refine AOps.st 5 rfl rfl rfl (op_assign rfl rfl ?_)
              refine AOps.nil ?_
              refine BoolQ.mk rfl ?_ (by repeat' (first | exact SLe.wo _ _ | exact SLe.refl _ | refine SLe.fresh rfl ?_)) (by first | exact MLe.none _ | exact MLe.refl _ | (repeat' (first | exact MLe.nil | exact MLe.refl _ | refine MLe.cons _ ?_ | refine MLe.drop _ ?_)))
              simp_all
            · skip
              refine AOps.gt 40 rfl rfl rfl rfl rfl (op_fieldAddr_c rfl tf_46_5 rfl rfl ?_)
              refine AOps.gt 41 rfl rfl rfl rfl rfl (op_load_c1 rfl ta_43 rfl rfl ?_)
              refine AOps.gt 42 rfl rfl rfl rfl rfl (op_fieldAddr_c rfl tf_46_5 rfl rfl ?_)
              refine AOps.gt 43 rfl rfl rfl rfl rfl (op_load_c1 rfl ta_43 rfl rfl ?_)
              refine AOps.gt 44 rfl rfl rfl rfl rfl (op_callb (xs := [.tmp 41, .tmp 43]) rfl rfl (Equal_I fs1 fs2) (by first | exact Les.refl _ | (repeat' (first | exact Les.refl _ | refine Les.cons ?_ ?_ | exact Le.refl _ | exact Le.own _ _ _ | exact Le.nil _ | refine Le.agg ?_))) ?_); intro c44 h44
              refine AOps.st 45 rfl rfl rfl (op_pick rfl rfl rfl ?_)
              refine AOps.st 46 rfl rfl rfl (op_move rfl rfl ?_)
              rcases bool_split h44 with ⟨rfl, g44⟩ | ⟨rfl, g44⟩
              · skip
                refine AOps.gf 47 rfl rfl rfl rfl rfl ?_
                refine AOps.gf 48 rfl rfl rfl rfl rfl ?_
                refine AOps.gf 49 rfl rfl rfl rfl rfl ?_
                refine AOps.gf 50 rfl rfl rfl rfl rfl ?_
                refine AOps.gf 51 rfl rfl rfl rfl rfl ?_
                refine AOps.gf 52 rfl rfl rfl rfl rfl ?_
                refine AOps.st 53 rfl rfl rfl (op_pick rfl rfl rfl ?_)
                refine AOps.st 5 rfl rfl rfl (op_assign rfl rfl ?_)
                refine AOps.nil ?_
                refine BoolQ.mk rfl ?_ (by repeat' (first | exact SLe.wo _ _ | exact SLe.refl _ | refine SLe.fresh rfl ?_)) (by first | exact MLe.none _ | exact MLe.refl _ | (repeat' (first | exact MLe.nil | exact MLe.refl _ | refine MLe.cons _ ?_ | refine MLe.drop _ ?_)))
                simp_all
              · skip
                refine AOps.gt 47 rfl rfl rfl rfl rfl (op_fieldAddr_c rfl tf_46_6 rfl rfl ?_)
                refine AOps.gt 48 rfl rfl rfl rfl rfl (op_load_c1 rfl ta_44 rfl rfl ?_)
                refine AOps.gt 49 rfl rfl rfl rfl rfl (op_fieldAddr_c rfl tf_46_6 rfl rfl ?_)
                refine AOps.gt 50 rfl rfl rfl rfl rfl (op_load_c1 rfl ta_44 rfl rfl ?_)
                first | (refine AOps.gt 51 rfl rfl rfl rfl rfl (op_load_m1 (i := 0) rfl ta_57 rfl rfl rfl ?_)) | (refine AOps.gt 51 rfl rfl rfl rfl rfl (op_load_m1 (i := 1) rfl ta_57 rfl rfl rfl ?_)) | (refine AOps.gt 51 rfl rfl rfl rfl rfl (op_load_m1 (i := 2) rfl ta_57 rfl rfl rfl ?_)) | (refine AOps.gt 51 rfl rfl rfl rfl rfl (op_load_m1 (i := 3) rfl ta_57 rfl rfl rfl ?_)) | (refine AOps.gt 51 rfl rfl rfl rfl rfl (op_load_m1 (i := 4) rfl ta_57 rfl rfl rfl ?_)) | (refine AOps.gt 51 rfl rfl rfl rfl rfl (op_load_m1 (i := 5) rfl ta_57 rfl rfl rfl ?_)) | (refine AOps.gt 51 rfl rfl rfl rfl rfl (op_load_m1 (i := 6) rfl ta_57 rfl rfl rfl ?_)) | (refine AOps.gt 51 rfl rfl rfl rfl rfl (op_load_m1 (i := 7) rfl ta_57 rfl rfl rfl ?_)) | (refine AOps.gt 51 rfl rfl rfl rfl rfl (op_load_m1 (i := 8) rfl ta_57 rfl rfl rfl ?_)) | (refine AOps.gt 51 rfl rfl rfl rfl rfl (op_load_m1 (i := 9) rfl ta_57 rfl rfl rfl ?_)) | (refine AOps.gt 51 rfl rfl rfl rfl rfl (op_load_c1 rfl ta_57 rfl rfl ?_))
                refine AOps.gt 52 rfl rfl rfl rfl rfl (op_callb (xs := [.tmp 48, .tmp 50, .tmp 51]) rfl rfl (EqF_Caps cp1 cp2) (by first | exact Les.refl _ | (repeat' (first | exact Les.refl _ | refine Les.cons ?_ ?_ | exact Le.refl _ | exact Le.own _ _ _ | exact Le.nil _ | refine Le.agg ?_))) ?_); intro c52 h52
                refine AOps.st 53 rfl rfl rfl (op_pick rfl rfl rfl ?_)
                refine AOps.st 5 rfl rfl rfl (op_assign rfl rfl ?_)
                refine AOps.nil ?_
                refine BoolQ.mk rfl ?_ (by repeat' (first | exact SLe.wo _ _ | exact SLe.refl _ | refine SLe.fresh rfl ?_)) (by first | exact MLe.none _ | exact MLe.refl _ | (repeat' (first | exact MLe.nil | exact MLe.refl _ | refine MLe.cons _ ?_ | refine MLe.drop _ ?_)))
                simp_all
  intro c5 h5
  refine go_code ?_
  refine c_ret ?_
  exact out_tmp rfl rfl (Le.refl _) (by first | exact MLe.none _ | exact MLe.refl _ | (repeat' (first | exact MLe.nil | exact MLe.refl _ | refine MLe.cons _ ?_ | refine MLe.drop _ ?_))) ⟨⟨_, h5.trans (by simp), rfl⟩, rfl⟩
set_option maxHeartbeats 4000000 in
set_option maxRecDepth 100000 in
theorem EqF_Ins (xs ys : List Is) : BCall Try.prog 28 [.seq 7 (Is.cellss xs), .seq 7 (Is.cellss ys), .clo (.func 23) [] [.cptr [.clo (.func 21) [] []]]] (xs = ys) := by
  have hlx := Is.cellss_len xs
  have hly := Is.cellss_len ys
  refine ACall.enter Try.func28 rfl (by kernel_rfl) rfl (Nat.le_of_ble_eq_true rfl) ?_
  refine c_start ?_
  refine c_lens (t := 0) rfl (.seq _ _) (fun hmax => ?_)
  refine c_seq ?_
  refine c_region ?_
  refine AOps.st 6 rfl rfl rfl (op_assign rfl rfl ?_)
  refine AOps.nil ?_
  refine go_code ?_
  refine c_seq ?_
  refine c_seq ?_
  refine c_region ?_
  refine AOps.st 10 rfl rfl rfl (op_move rfl rfl ?_)
  refine AOps.st 11 rfl rfl rfl (op_len rfl tu_22 rfl (.seq _ _) (fun n11 => ?_))
  refine AOps.st 12 rfl rfl rfl (op_move rfl rfl ?_)
  refine AOps.st 13 rfl rfl rfl (op_len rfl tu_22 rfl (.seq _ _) (fun n13 => ?_))
  refine AOps.st 14 rfl rfl rfl (op_neq rfl rfl rfl ?_); intro c14 h14
  refine AOps.nil ?_
  refine go_code ?_
  rcases bool_split h14 with ⟨rfl, g14⟩ | ⟨rfl, g14⟩
  · refine c_cond_f rfl ?_
    refine c_skip ?_
    refine go_code ?_
    refine c_seq ?_
    refine c_seq ?_
    refine c_region ?_
    refine AOps.st 15 rfl rfl rfl (op_move rfl rfl ?_)
    refine AOps.st 16 rfl rfl rfl (op_len rfl tu_22 rfl (.seq _ _) (fun n16 => ?_))
    refine AOps.st 17 rfl rfl rfl (op_move rfl rfl ?_)
    refine AOps.nil ?_
    refine go_code ?_
    refine c_block ?_
    apply c_loopkm [0, 3, 4, 5, 6, 7, 8, 9, 10, 11, 12, 13, 14, 17, 18, 19, 20, 21, 22, 23, 24, 25, 26, 27, 28, 29, 30, 31] (σ := Nat) (fun zz => match zz with | i => [(17, .val (.int .i64 i))]) (fun zz => match zz with | i => i ≤ xs.length ∧ Upto xs ys i) (fun zz => match zz with | i => xs.length - i) (0)
    · repeat' (first | exact Drops.nil | apply Drops.keep rfl | apply Drops.skip rfl)
    · exact ⟨by omega, Upto.zero _ _⟩
    · exact (by repeat' (first | exact SLe.nil _ | refine SLe.cons rfl ?_ ?_ | exact Le.refl _ | exact Le.own _ _ _ | exact Le.nil _))
    rintro i hI
    try dsimp only [List.cons_append, List.nil_append] at hI ⊢
    obtain ⟨hi, hu⟩ := hI
    refine c_seq ?_
    refine c_region ?_
    refine AOps.st 18 rfl rfl rfl (op_lss rfl rfl rfl ?_); intro c18 h18
    refine AOps.nil ?_
    refine go_code ?_
    refine c_seq ?_
    rcases bool_split h18 with ⟨rfl, g18⟩ | ⟨rfl, g18⟩
    · refine c_cond_f rfl ?_
      refine c_exit ?_
      refine x_code ?_
      refine x_lp ?_
      refine x_here ?_
      refine go_code ?_
      refine c_seq ?_
      refine c_region ?_
      refine AOps.st 6 rfl rfl rfl (op_assign rfl rfl ?_)
      refine AOps.nil ?_
      refine go_code ?_
      refine c_ret ?_
      exact out_tmp rfl rfl (Le.refl _) (by first | exact MLe.none _ | exact MLe.refl _ | (repeat' (first | exact MLe.nil | exact MLe.refl _ | refine MLe.cons _ ?_ | refine MLe.drop _ ?_))) ⟨⟨_, iff_t (hu.eq (by omega) (by omega)), rfl⟩, rfl⟩
    · refine c_cond_t rfl ?_
      refine c_skip ?_
      refine go_code ?_
      refine c_seq ?_
      refine c_block ?_
      refine c_seq ?_
      obtain ⟨⟨xop, xa, xb, xn, xar, xfs, xcp⟩, hxx⟩ := get_some (l := xs) (i := i) (by first | omega | (simp at *; omega))
      have hcx := Is.cellss_get hxx
      have hmx := List.mem_of_getElem? hxx
      obtain ⟨⟨yop, ya, yb, yn, yar, yfs, ycp⟩, hxy⟩ := get_some (l := ys) (i := i) (by first | omega | (simp at *; omega))
      have hcy := Is.cellss_get hxy
      have hmy := List.mem_of_getElem? hxy
      refine c_region ?_
      refine AOps.st 19 rfl rfl rfl (op_move rfl rfl ?_)
      refine AOps.st 20 rfl rfl rfl (op_index rfl te_22 rfl (.seq _ _) rfl rfl (by assumption) ?_)
      first | (refine AOps.st 21 rfl rfl rfl (op_load_m (cs' := [_, _, _, _, _, _, _]) (i := 0) rfl ta_46 rfl rfl rfl rfl ?_)) | (refine AOps.st 21 rfl rfl rfl (op_load_m (cs' := [_, _, _, _, _, _, _]) (i := 1) rfl ta_46 rfl rfl rfl rfl ?_)) | (refine AOps.st 21 rfl rfl rfl (op_load_m (cs' := [_, _, _, _, _, _, _]) (i := 2) rfl ta_46 rfl rfl rfl rfl ?_)) | (refine AOps.st 21 rfl rfl rfl (op_load_m (cs' := [_, _, _, _, _, _, _]) (i := 3) rfl ta_46 rfl rfl rfl rfl ?_)) | (refine AOps.st 21 rfl rfl rfl (op_load_m (cs' := [_, _, _, _, _, _, _]) (i := 4) rfl ta_46 rfl rfl rfl rfl ?_)) | (refine AOps.st 21 rfl rfl rfl (op_load_m (cs' := [_, _, _, _, _, _, _]) (i := 5) rfl ta_46 rfl rfl rfl rfl ?_)) | (refine AOps.st 21 rfl rfl rfl (op_load_m (cs' := [_, _, _, _, _, _, _]) (i := 6) rfl ta_46 rfl rfl rfl rfl ?_)) | (refine AOps.st 21 rfl rfl rfl (op_load_m (cs' := [_, _, _, _, _, _, _]) (i := 7) rfl ta_46 rfl rfl rfl rfl ?_)) | (refine AOps.st 21 rfl rfl rfl (op_load_m (cs' := [_, _, _, _, _, _, _]) (i := 8) rfl ta_46 rfl rfl rfl rfl ?_)) | (refine AOps.st 21 rfl rfl rfl (op_load_m (cs' := [_, _, _, _, _, _, _]) (i := 9) rfl ta_46 rfl rfl rfl rfl ?_)) | (refine AOps.st 21 rfl rfl rfl (op_load_c (cs' := [_, _, _, _, _, _, _]) rfl ta_46 rfl rfl rfl ?_))
      refine AOps.st 8 rfl rfl rfl (op_alloce (cs' := [_, _, _, _, _, _, _]) rfl tz_46 rfl rfl ?_); intro b8
      refine AOps.st 7 rfl rfl rfl (op_assign rfl rfl ?_)
      refine AOps.st0 rfl rfl (op_store (cs' := [_, _, _, _, _, _, _]) (i := 0) rfl ts_46 rfl rfl rfl rfl rfl (Nat.le_of_ble_eq_true rfl) rfl ?_)
      refine AOps.nil ?_
      refine go_code ?_
      refine c_seq ?_
      refine c_region ?_
      refine AOps.st 22 rfl rfl rfl (op_move rfl rfl ?_)
      refine AOps.st 23 rfl rfl rfl (op_move rfl rfl ?_)
      refine AOps.st 24 rfl rfl rfl (op_index rfl te_22 rfl (.seq _ _) rfl rfl (by assumption) ?_)
      first | (refine AOps.st 25 rfl rfl rfl (op_load_m (cs' := [_, _, _, _, _, _, _]) (i := 0) rfl ta_46 rfl rfl rfl rfl ?_)) | (refine AOps.st 25 rfl rfl rfl (op_load_m (cs' := [_, _, _, _, _, _, _]) (i := 1) rfl ta_46 rfl rfl rfl rfl ?_)) | (refine AOps.st 25 rfl rfl rfl (op_load_m (cs' := [_, _, _, _, _, _, _]) (i := 2) rfl ta_46 rfl rfl rfl rfl ?_)) | (refine AOps.st 25 rfl rfl rfl (op_load_m (cs' := [_, _, _, _, _, _, _]) (i := 3) rfl ta_46 rfl rfl rfl rfl ?_)) | (refine AOps.st 25 rfl rfl rfl (op_load_m (cs' := [_, _, _, _, _, _, _]) (i := 4) rfl ta_46 rfl rfl rfl rfl ?_)) | (refine AOps.st 25 rfl rfl rfl (op_load_m (cs' := [_, _, _, _, _, _, _]) (i := 5) rfl ta_46 rfl rfl rfl rfl ?_)) | (refine AOps.st 25 rfl rfl rfl (op_load_m (cs' := [_, _, _, _, _, _, _]) (i := 6) rfl ta_46 rfl rfl rfl rfl ?_)) | (refine AOps.st 25 rfl rfl rfl (op_load_m (cs' := [_, _, _, _, _, _, _]) (i := 7) rfl ta_46 rfl rfl rfl rfl ?_)) | (refine AOps.st 25 rfl rfl rfl (op_load_m (cs' := [_, _, _, _, _, _, _]) (i := 8) rfl ta_46 rfl rfl rfl rfl ?_)) | (refine AOps.st 25 rfl rfl rfl (op_load_m (cs' := [_, _, _, _, _, _, _]) (i := 9) rfl ta_46 rfl rfl rfl rfl ?_)) | (refine AOps.st 25 rfl rfl rfl (op_load_c (cs' := [_, _, _, _, _, _, _]) rfl ta_46 rfl rfl rfl ?_))
      refine AOps.st 9 rfl rfl rfl (op_alloce (cs' := [_, _, _, _, _, _, _]) rfl tz_46 rfl rfl ?_); intro b9
      refine AOps.st0 rfl rfl (op_store (cs' := [_, _, _, _, _, _, _]) (i := 0) rfl ts_46 rfl rfl rfl rfl rfl (Nat.le_of_ble_eq_true rfl) rfl ?_)
      refine AOps.nil ?_
      refine go_code ?_
      refine c_seq ?_
      refine c_region ?_
      refine AOps.st 26 rfl rfl rfl (op_move rfl rfl ?_)
      first | (refine AOps.st 27 rfl rfl rfl (op_load_m (cs' := [_, _, _, _, _, _, _]) (i := 0) rfl ta_46 rfl rfl rfl rfl ?_)) | (refine AOps.st 27 rfl rfl rfl (op_load_m (cs' := [_, _, _, _, _, _, _]) (i := 1) rfl ta_46 rfl rfl rfl rfl ?_))
      refine AOps.st 28 rfl rfl rfl (op_load_m (cs' := [_, _, _, _, _, _, _]) (i := 0) rfl ta_46 rfl rfl rfl rfl ?_)
      refine AOps.st 29 rfl rfl rfl (op_callvb (xs := [.tmp 27, .tmp 28]) rfl rfl rfl (sameIns_c ⟨xop, xa, xb, xn, xar, xfs, xcp⟩ ⟨yop, ya, yb, yn, yar, yfs, ycp⟩) (by first | exact Les.refl _ | (repeat' (first | exact Les.refl _ | refine Les.cons ?_ ?_ | exact Le.refl _ | exact Le.own _ _ _ | exact Le.nil _ | refine Le.agg ?_))) ?_); intro c29 h29
      refine AOps.st 30 rfl rfl rfl (op_notc rfl rfl ?_); intro c30 h30
      try replace h30 := nott h30 h29
      refine AOps.nil ?_
      refine go_code ?_
      rcases bool_split h30 with ⟨rfl, g30⟩ | ⟨rfl, g30⟩
      · refine c_cond_f rfl ?_
        refine c_skip ?_
        refine go_blk ?_
        refine go_code ?_
        refine c_region ?_
        refine AOps.st 31 rfl rfl rfl (op_add rfl rfl rfl (IntWalk.i64_in _ (by omega)) ?_)
        refine AOps.st 17 rfl rfl rfl (op_move rfl rfl ?_)
        refine AOps.nil ?_
        refine go_lp ?_
        exact ⟨i + 1, ⟨by omega, hu.succ hxx hxy (Classical.not_not.1 g30)⟩, by simp; omega, (by repeat' (first | exact SLe.nil _ | refine SLe.cons rfl ?_ ?_ | exact Le.refl _ | exact Le.own _ _ _ | exact Le.nil _)), (by first | exact MLe.none _ | exact MLe.refl _ | (repeat' (first | exact MLe.nil | exact MLe.refl _ | refine MLe.cons _ ?_ | refine MLe.drop _ ?_)))⟩
      · refine c_cond_t rfl ?_
        refine c_seq ?_
        refine c_region ?_
        refine AOps.st 6 rfl rfl rfl (op_assign rfl rfl ?_)
        refine AOps.nil ?_
        refine go_code ?_
        refine c_ret ?_
        exact out_tmp rfl rfl (Le.refl _) (by first | exact MLe.none _ | exact MLe.refl _ | (repeat' (first | exact MLe.nil | exact MLe.refl _ | refine MLe.cons _ ?_ | refine MLe.drop _ ?_))) ⟨⟨_, iff_f (fun e => g30 (by subst e; rw [hxx] at hxy; exact Option.some.inj hxy)), rfl⟩, rfl⟩
  · refine c_cond_t rfl ?_
    refine c_seq ?_
    refine c_region ?_
    refine AOps.st 6 rfl rfl rfl (op_assign rfl rfl ?_)
    refine AOps.nil ?_
    refine go_code ?_
    refine c_ret ?_
    exact out_tmp rfl rfl (Le.refl _) (by first | exact MLe.none _ | exact MLe.refl _ | (repeat' (first | exact MLe.nil | exact MLe.refl _ | refine MLe.cons _ ?_ | refine MLe.drop _ ?_))) ⟨⟨_, iff_f (fun e => by subst e; omega), rfl⟩, rfl⟩
set_option maxHeartbeats 4000000 in
set_option maxRecDepth 100000 in
theorem Same29_c (a b : Cd) : BCall Try.prog 9 [.agg a.cells, .agg b.cells] (a = b) := by
  obtain ⟨is1, fu1, tx1, gl1, ys1, no1⟩ := a
  obtain ⟨is2, fu2, tx2, gl2, ys2, no2⟩ := b
  refine ACall.enter Try.func9 rfl (by kernel_rfl) rfl (Nat.le_of_ble_eq_true rfl) ?_
  refine c_start ?_
  refine c_seq ?_
  refine c_region ?_
  refine AOps.st 2 rfl rfl rfl (op_boxc (cs' := [_, _, _, _, _, _]) rfl rfl rfl rfl ?_)
  refine AOps.st 3 rfl rfl rfl (op_boxc (cs' := [_, _, _, _, _, _]) rfl rfl rfl rfl ?_)
  refine AOps.st 4 rfl rfl rfl (op_assign rfl rfl ?_)
  refine AOps.nil ?_
  refine go_code ?_
  refine c_seq ?_
  refine c_region ?_
  refine AOps.st 5 rfl rfl rfl (op_alloce (cs' := [_]) rfl tz_57 rfl rfl ?_); intro b5
  refine AOps.st0 rfl rfl (op_store (cs' := [_]) (i := 0) rfl ts_57 rfl rfl rfl rfl rfl (Nat.le_of_ble_eq_true rfl) rfl ?_)
  refine AOps.nil ?_
  refine go_code ?_
  refine c_seq ?_
  refine c_fixl 5 0 rfl rfl ?_
  refine c_region ?_
  refine AOps.st 7 rfl rfl rfl (op_makeFunc (fs := []) (cs := [.tmp 5]) rfl rfl rfl ?_)
  refine AOps.st 6 rfl rfl rfl (op_assign rfl rfl ?_)
  refine AOps.nil ?_
  refine go_code ?_
  refine c_seq ?_
  refine c_bool 4 (gl1 = gl2 ∧ ys1 = ys2 ∧ no1 = no2 ∧ tx1 = tx2 ∧ fu1 = fu2 ∧ is1 = is2) ?_ _ _ rfl ?_
  · skip
    refine AOps.st 8 rfl rfl rfl (op_fieldAddr_c rfl tf_26_3 rfl rfl ?_)
    refine AOps.st 9 rfl rfl rfl (op_load_c1 rfl ta_3 rfl rfl ?_)
    refine AOps.st 10 rfl rfl rfl (op_fieldAddr_c rfl tf_26_3 rfl rfl ?_)
    refine AOps.st 11 rfl rfl rfl (op_load_c1 rfl ta_3 rfl rfl ?_)
    refine AOps.st 12 rfl rfl rfl (op_eql rfl rfl rfl ?_); intro c12 h12
    refine AOps.st 13 rfl rfl rfl (op_move rfl rfl ?_)
    rcases bool_split h12 with ⟨rfl, g12⟩ | ⟨rfl, g12⟩
    · skip
      refine AOps.gf 14 rfl rfl rfl rfl rfl ?_
      refine AOps.gf 15 rfl rfl rfl rfl rfl ?_
      refine AOps.gf 16 rfl rfl rfl rfl rfl ?_
      refine AOps.gf 17 rfl rfl rfl rfl rfl ?_
      refine AOps.gf 18 rfl rfl rfl rfl rfl ?_
      refine AOps.st 19 rfl rfl rfl (op_pick rfl rfl rfl ?_)
      refine AOps.st 20 rfl rfl rfl (op_move rfl rfl ?_)
      refine AOps.gf 21 rfl rfl rfl rfl rfl ?_
      refine AOps.gf 22 rfl rfl rfl rfl rfl ?_
      refine AOps.gf 23 rfl rfl rfl rfl rfl ?_
      refine AOps.gf 24 rfl rfl rfl rfl rfl ?_
      refine AOps.gf 25 rfl rfl rfl rfl rfl ?_
      refine AOps.st 26 rfl rfl rfl (op_pick rfl rfl rfl ?_)
      refine AOps.st 27 rfl rfl rfl (op_move rfl rfl ?_)
      refine AOps.gf 28 rfl rfl rfl rfl rfl ?_
      refine AOps.gf 29 rfl rfl rfl rfl rfl ?_
      refine AOps.gf 30 rfl rfl rfl rfl rfl ?_
      refine AOps.gf 31 rfl rfl rfl rfl rfl ?_
      refine AOps.gf 32 rfl rfl rfl rfl rfl ?_
      refine AOps.st 33 rfl rfl rfl (op_pick rfl rfl rfl ?_)
      refine AOps.st 34 rfl rfl rfl (op_move rfl rfl ?_)
      refine AOps.gf 35 rfl rfl rfl rfl rfl ?_
      refine AOps.gf 36 rfl rfl rfl rfl rfl ?_
      refine AOps.gf 37 rfl rfl rfl rfl rfl ?_
      refine AOps.gf 38 rfl rfl rfl rfl rfl ?_
      refine AOps.gf 39 rfl rfl rfl rfl rfl ?_
      refine AOps.st 40 rfl rfl rfl (op_pick rfl rfl rfl ?_)
      refine AOps.st 41 rfl rfl rfl (op_move rfl rfl ?_)
      refine AOps.gf 42 rfl rfl rfl rfl rfl ?_
      refine AOps.gf 43 rfl rfl rfl rfl rfl ?_
      refine AOps.gf 44 rfl rfl rfl rfl rfl ?_
      refine AOps.gf 45 rfl rfl rfl rfl rfl ?_
      refine AOps.gf 46 rfl rfl rfl rfl rfl ?_
      refine AOps.gf 47 rfl rfl rfl rfl rfl ?_
      refine AOps.st 48 rfl rfl rfl (op_pick rfl rfl rfl ?_)
      refine AOps.st 4 rfl rfl rfl (op_assign rfl rfl ?_)
      refine AOps.nil ?_
      refine BoolQ.mk rfl ?_ (by repeat' (first | exact SLe.wo _ _ | exact SLe.refl _ | refine SLe.fresh rfl ?_)) (by first | exact MLe.none _ | exact MLe.refl _ | (repeat' (first | exact MLe.nil | exact MLe.refl _ | refine MLe.cons _ ?_ | refine MLe.drop _ ?_)))
      simp_all
    · skip
      refine AOps.gt 14 rfl rfl rfl rfl rfl (op_fieldAddr_c rfl tf_26_4 rfl rfl ?_)
      refine AOps.gt 15 rfl rfl rfl rfl rfl (op_load_c1 rfl ta_3 rfl rfl ?_)
      refine AOps.gt 16 rfl rfl rfl rfl rfl (op_fieldAddr_c rfl tf_26_4 rfl rfl ?_)
      refine AOps.gt 17 rfl rfl rfl rfl rfl (op_load_c1 rfl ta_3 rfl rfl ?_)
      refine AOps.gt 18 rfl rfl rfl rfl rfl (op_eql rfl rfl rfl ?_); intro c18 h18
      refine AOps.st 19 rfl rfl rfl (op_pick rfl rfl rfl ?_)
      refine AOps.st 20 rfl rfl rfl (op_move rfl rfl ?_)
      rcases bool_split h18 with ⟨rfl, g18⟩ | ⟨rfl, g18⟩
      · skip
        refine AOps.gf 21 rfl rfl rfl rfl rfl ?_
        refine AOps.gf 22 rfl rfl rfl rfl rfl ?_
        refine AOps.gf 23 rfl rfl rfl rfl rfl ?_
        refine AOps.gf 24 rfl rfl rfl rfl rfl ?_
        refine AOps.gf 25 rfl rfl rfl rfl rfl ?_
        refine AOps.st 26 rfl rfl rfl (op_pick rfl rfl rfl ?_)
        refine AOps.st 27 rfl rfl rfl (op_move rfl rfl ?_)
        refine AOps.gf 28 rfl rfl rfl rfl rfl ?_
        refine AOps.gf 29 rfl rfl rfl rfl rfl ?_
        refine AOps.gf 30 rfl rfl rfl rfl rfl ?_
        refine AOps.gf 31 rfl rfl rfl rfl rfl ?_
        refine AOps.gf 32 rfl rfl rfl rfl rfl ?_
        refine AOps.st 33 rfl rfl rfl (op_pick rfl rfl rfl ?_)
        refine AOps.st 34 rfl rfl rfl (op_move rfl rfl ?_)
        refine AOps.gf 35 rfl rfl rfl rfl rfl ?_
        refine AOps.gf 36 rfl rfl rfl rfl rfl ?_
        refine AOps.gf 37 rfl rfl rfl rfl rfl ?_
        refine AOps.gf 38 rfl rfl rfl rfl rfl ?_
        refine AOps.gf 39 rfl rfl rfl rfl rfl ?_
        refine AOps.st 40 rfl rfl rfl (op_pick rfl rfl rfl ?_)
        refine AOps.st 41 rfl rfl rfl (op_move rfl rfl ?_)
        refine AOps.gf 42 rfl rfl rfl rfl rfl ?_
        refine AOps.gf 43 rfl rfl rfl rfl rfl ?_
        refine AOps.gf 44 rfl rfl rfl rfl rfl ?_
        refine AOps.gf 45 rfl rfl rfl rfl rfl ?_
        refine AOps.gf 46 rfl rfl rfl rfl rfl ?_
        refine AOps.gf 47 rfl rfl rfl rfl rfl ?_
        refine AOps.st 48 rfl rfl rfl (op_pick rfl rfl rfl ?_)
        refine AOps.st 4 rfl rfl rfl (op_assign rfl rfl ?_)
        refine AOps.nil ?_
        refine BoolQ.mk rfl ?_ (by repeat' (first | exact SLe.wo _ _ | exact SLe.refl _ | refine SLe.fresh rfl ?_)) (by first | exact MLe.none _ | exact MLe.refl _ | (repeat' (first | exact MLe.nil | exact MLe.refl _ | refine MLe.cons _ ?_ | refine MLe.drop _ ?_)))
        simp_all
      · skip
        refine AOps.gt 21 rfl rfl rfl rfl rfl (op_fieldAddr_c rfl tf_26_5 rfl rfl ?_)
        refine AOps.gt 22 rfl rfl rfl rfl rfl (op_load_c1 rfl ta_3 rfl rfl ?_)
        refine AOps.gt 23 rfl rfl rfl rfl rfl (op_fieldAddr_c rfl tf_26_5 rfl rfl ?_)
        refine AOps.gt 24 rfl rfl rfl rfl rfl (op_load_c1 rfl ta_3 rfl rfl ?_)
        refine AOps.gt 25 rfl rfl rfl rfl rfl (op_eql rfl rfl rfl ?_); intro c25 h25
        refine AOps.st 26 rfl rfl rfl (op_pick rfl rfl rfl ?_)
        refine AOps.st 27 rfl rfl rfl (op_move rfl rfl ?_)
        rcases bool_split h25 with ⟨rfl, g25⟩ | ⟨rfl, g25⟩
        · skip
          refine AOps.gf 28 rfl rfl rfl rfl rfl ?_
          refine AOps.gf 29 rfl rfl rfl rfl rfl ?_
          refine AOps.gf 30 rfl rfl rfl rfl rfl ?_
          refine AOps.gf 31 rfl rfl rfl rfl rfl ?_
          refine AOps.gf 32 rfl rfl rfl rfl rfl ?_
          refine AOps.st 33 rfl rfl rfl (op_pick rfl rfl rfl ?_)
          refine AOps.st 34 rfl rfl rfl (op_move rfl rfl ?_)
          refine AOps.gf 35 rfl rfl rfl rfl rfl ?_
          refine AOps.gf 36 rfl rfl rfl rfl rfl ?_
          refine AOps.gf 37 rfl rfl rfl rfl rfl ?_
          refine AOps.gf 38 rfl rfl rfl rfl rfl ?_
          refine AOps.gf 39 rfl rfl rfl rfl rfl ?_
          refine AOps.st 40 rfl rfl rfl (op_pick rfl rfl rfl ?_)
          refine AOps.st 41 rfl rfl rfl (op_move rfl rfl ?_)
          refine AOps.gf 42 rfl rfl rfl rfl rfl ?_
          refine AOps.gf 43 rfl rfl rfl rfl rfl ?_
          refine AOps.gf 44 rfl rfl rfl rfl rfl ?_
          refine AOps.gf 45 rfl rfl rfl rfl rfl ?_
          refine AOps.gf 46 rfl rfl rfl rfl rfl ?_
          refine AOps.gf 47 rfl rfl rfl rfl rfl ?_
          refine AOps.st 48 rfl rfl rfl (op_pick rfl rfl rfl ?_)
          refine AOps.st 4 rfl rfl rfl (op_assign rfl rfl ?_)
          refine AOps.nil ?_
          refine BoolQ.mk rfl ?_ (by repeat' (first | exact SLe.wo _ _ | exact SLe.refl _ | refine SLe.fresh rfl ?_)) (by first | exact MLe.none _ | exact MLe.refl _ | (repeat' (first | exact MLe.nil | exact MLe.refl _ | refine MLe.cons _ ?_ | refine MLe.drop _ ?_)))
          simp_all
        · skip
          refine AOps.gt 28 rfl rfl rfl rfl rfl (op_fieldAddr_c rfl tf_26_2 rfl rfl ?_)
          refine AOps.gt 29 rfl rfl rfl rfl rfl (op_load_c1 rfl ta_24 rfl rfl ?_)
          refine AOps.gt 30 rfl rfl rfl rfl rfl (op_fieldAddr_c rfl tf_26_2 rfl rfl ?_)
          refine AOps.gt 31 rfl rfl rfl rfl rfl (op_load_c1 rfl ta_24 rfl rfl ?_)
          refine AOps.gt 32 rfl rfl rfl rfl rfl (op_callb (xs := [.tmp 29, .tmp 31]) rfl rfl (Equal_S tx1 tx2) (by first | exact Les.refl _ | (repeat' (first | exact Les.refl _ | refine Les.cons ?_ ?_ | exact Le.refl _ | exact Le.own _ _ _ | exact Le.nil _ | refine Le.agg ?_))) ?_); intro c32 h32
          refine AOps.st 33 rfl rfl rfl (op_pick rfl rfl rfl ?_)
          refine AOps.st 34 rfl rfl rfl (op_move rfl rfl ?_)
          rcases bool_split h32 with ⟨rfl, g32⟩ | ⟨rfl, g32⟩
          · skip
            refine AOps.gf 35 rfl rfl rfl rfl rfl ?_
            refine AOps.gf 36 rfl rfl rfl rfl rfl ?_
            refine AOps.gf 37 rfl rfl rfl rfl rfl ?_
            refine AOps.gf 38 rfl rfl rfl rfl rfl ?_
            refine AOps.gf 39 rfl rfl rfl rfl rfl ?_
            refine AOps.st 40 rfl rfl rfl (op_pick rfl rfl rfl ?_)
            refine AOps.st 41 rfl rfl rfl (op_move rfl rfl ?_)
            refine AOps.gf 42 rfl rfl rfl rfl rfl ?_
            refine AOps.gf 43 rfl rfl rfl rfl rfl ?_
            refine AOps.gf 44 rfl rfl rfl rfl rfl ?_
            refine AOps.gf 45 rfl rfl rfl rfl rfl ?_
            refine AOps.gf 46 rfl rfl rfl rfl rfl ?_
            refine AOps.gf 47 rfl rfl rfl rfl rfl ?_
            refine AOps.st 48 rfl rfl rfl (op_pick rfl rfl rfl ?_)
            refine AOps.st 4 rfl rfl rfl (op_assign rfl rfl ?_)
            refine AOps.nil ?_
            refine BoolQ.mk rfl ?_ (by repeat' (first | exact SLe.wo _ _ | exact SLe.refl _ | refine SLe.fresh rfl ?_)) (by first | exact MLe.none _ | exact MLe.refl _ | (repeat' (first | exact MLe.nil | exact MLe.refl _ | refine MLe.cons _ ?_ | refine MLe.drop _ ?_)))
            simp_all
          · skip
            refine AOps.gt 35 rfl rfl rfl rfl rfl (op_fieldAddr_c rfl tf_26_1 rfl rfl ?_)
            refine AOps.gt 36 rfl rfl rfl rfl rfl (op_load_c1 rfl ta_23 rfl rfl ?_)
            refine AOps.gt 37 rfl rfl rfl rfl rfl (op_fieldAddr_c rfl tf_26_1 rfl rfl ?_)
            refine AOps.gt 38 rfl rfl rfl rfl rfl (op_load_c1 rfl ta_23 rfl rfl ?_)
            refine AOps.gt 39 rfl rfl rfl rfl rfl (op_callb (xs := [.tmp 36, .tmp 38]) rfl rfl (Equal_Cf fu1 fu2) (by first | exact Les.refl _ | (repeat' (first | exact Les.refl _ | refine Les.cons ?_ ?_ | exact Le.refl _ | exact Le.own _ _ _ | exact Le.nil _ | refine Le.agg ?_))) ?_); intro c39 h39
            refine AOps.st 40 rfl rfl rfl (op_pick rfl rfl rfl ?_)
            refine AOps.st 41 rfl rfl rfl (op_move rfl rfl ?_)
            rcases bool_split h39 with ⟨rfl, g39⟩ | ⟨rfl, g39⟩
            · skip
              refine AOps.gf 42 rfl rfl rfl rfl rfl ?_
              refine AOps.gf 43 rfl rfl rfl rfl rfl ?_
              refine AOps.gf 44 rfl rfl rfl rfl rfl ?_
              refine AOps.gf 45 rfl rfl rfl rfl rfl ?_
              refine AOps.gf 46 rfl rfl rfl rfl rfl ?_
              refine AOps.gf 47 rfl rfl rfl rfl rfl ?_
              refine AOps.st 48 rfl rfl rfl (op_pick rfl rfl rfl ?_)
              refine AOps.st 4 rfl rfl rfl (op_assign rfl rfl ?_)
              refine AOps.nil ?_
              refine BoolQ.mk rfl ?_ (by repeat' (first | exact SLe.wo _ _ | exact SLe.refl _ | refine SLe.fresh rfl ?_)) (by first | exact MLe.none _ | exact MLe.refl _ | (repeat' (first | exact MLe.nil | exact MLe.refl _ | refine MLe.cons _ ?_ | refine MLe.drop _ ?_)))
              simp_all
            · skip
              refine AOps.gt 42 rfl rfl rfl rfl rfl (op_fieldAddr_c rfl tf_26_0 rfl rfl ?_)
              refine AOps.gt 43 rfl rfl rfl rfl rfl (op_load_c1 rfl ta_22 rfl rfl ?_)
              refine AOps.gt 44 rfl rfl rfl rfl rfl (op_fieldAddr_c rfl tf_26_0 rfl rfl ?_)
              refine AOps.gt 45 rfl rfl rfl rfl rfl (op_load_c1 rfl ta_22 rfl rfl ?_)
              refine AOps.gt 46 rfl rfl rfl rfl rfl (op_move rfl rfl ?_)
              refine AOps.gt 47 rfl rfl rfl rfl rfl (op_callb (xs := [.tmp 43, .tmp 45, .tmp 46]) rfl rfl (EqF_Ins is1 is2) (by first | exact Les.refl _ | (repeat' (first | exact Les.refl _ | refine Les.cons ?_ ?_ | exact Le.refl _ | exact Le.own _ _ _ | exact Le.nil _ | refine Le.agg ?_))) ?_); intro c47 h47
              refine AOps.st 48 rfl rfl rfl (op_pick rfl rfl rfl ?_)
              refine AOps.st 4 rfl rfl rfl (op_assign rfl rfl ?_)
              refine AOps.nil ?_
              refine BoolQ.mk rfl ?_ (by repeat' (first | exact SLe.wo _ _ | exact SLe.refl _ | refine SLe.fresh rfl ?_)) (by first | exact MLe.none _ | exact MLe.refl _ | (repeat' (first | exact MLe.nil | exact MLe.refl _ | refine MLe.cons _ ?_ | refine MLe.drop _ ?_)))
              simp_all
  intro c4 h4
  refine go_code ?_
  refine c_ret ?_
  exact out_tmp rfl rfl (Le.refl _) (by first | exact MLe.none _ | exact MLe.refl _ | (repeat' (first | exact MLe.nil | exact MLe.refl _ | refine MLe.cons _ ?_ | refine MLe.drop _ ?_))) ⟨⟨_, h4.trans (by constructor; (rintro ⟨rfl, rfl, rfl, rfl, rfl, rfl⟩; rfl); (intro e; cases e; exact ⟨rfl, rfl, rfl, rfl, rfl, rfl⟩)), rfl⟩, rfl⟩
end Go.Proofs.Ytadhakcmfkghbaa
