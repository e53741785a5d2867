/- cognateref29.Same; cognatelaw29.Small answers a bool -/
import Derived.Test.YtadhakcmfkghbaaB29x
namespace Go.Proofs.Ytadhakcmfkghbaa
open Go.RowKit
set_option maxHeartbeats 4000000 in
set_option maxRecDepth 100000 in
theorem rsameAtoms_c (xs ys : List Ato) : BCall Try.prog 29 [.seq 2 (Ato.cellss xs), .seq 2 (Ato.cellss ys)] (xs = ys) := by
  have hlx := Ato.cellss_len xs
  have hly := Ato.cellss_len ys
  refine ACall.enter Try.func29 rfl (by kernel_rfl) rfl (Nat.le_of_ble_eq_true rfl) ?_
  refine c_start ?_
  refine c_lens (t := 0) rfl (.seq _ _) (fun hmax => ?_)
  refine c_seq ?_
  refine c_region ?_
  refine AOps.st 4 rfl rfl rfl (op_assign rfl rfl ?_)
  refine AOps.nil ?_
  refine go_code ?_
  refine c_seq ?_
  refine c_seq ?_
  refine c_region ?_
  refine AOps.st 6 rfl rfl rfl (op_move rfl rfl ?_)
  refine AOps.st 7 rfl rfl rfl (op_len rfl tu_42 rfl (.seq _ _) (fun n7 => ?_))
  refine AOps.st 8 rfl rfl rfl (op_move rfl rfl ?_)
  refine AOps.st 9 rfl rfl rfl (op_len rfl tu_42 rfl (.seq _ _) (fun n9 => ?_))
  refine AOps.st 10 rfl rfl rfl (op_neq rfl rfl rfl ?_); intro c10 h10
  refine AOps.nil ?_
  refine go_code ?_
  rcases bool_split h10 with ⟨rfl, g10⟩ | ⟨rfl, g10⟩
  · refine c_cond_f rfl ?_
    refine c_skip ?_
    refine go_code ?_
    refine c_seq ?_
    refine c_seq ?_
    refine c_region ?_
    refine AOps.st 5 rfl rfl rfl (op_assign rfl rfl ?_)
    refine AOps.nil ?_
    refine go_code ?_
    refine c_block ?_
    apply c_loopkm [2, 3, 4, 5, 6, 7, 8, 9, 10, 11, 12, 13, 14, 15, 16, 17, 18, 19, 20, 21, 22, 23, 24, 25, 26, 27, 28, 29, 30, 31, 32, 33, 34, 35, 36, 37, 38, 39, 40] (σ := Nat) (fun zz => match zz with | i => [(5, .val (.int .i64 i))]) (fun zz => match zz with | i => i ≤ xs.length ∧ Upto xs ys i) (fun zz => match zz with | i => xs.length - i) (0)
    · repeat' (first | exact Drops.nil | apply Drops.keep rfl | apply Drops.skip rfl)
    · exact ⟨by omega, Upto.zero _ _⟩
    · exact (by repeat' (first | exact SLe.nil _ | refine SLe.cons rfl ?_ ?_ | exact Le.refl _ | exact Le.own _ _ _ | exact Le.nil _))
    rintro i hI
    try dsimp only [List.cons_append, List.nil_append] at hI ⊢
    obtain ⟨hi, hu⟩ := hI
    refine c_seq ?_
    refine c_seq ?_
    refine c_region ?_
    refine AOps.st 11 rfl rfl rfl (op_move rfl rfl ?_)
    refine AOps.st 12 rfl rfl rfl (op_move rfl rfl ?_)
    refine AOps.st 13 rfl rfl rfl (op_len rfl tu_42 rfl (.seq _ _) (fun n13 => ?_))
    refine AOps.st 14 rfl rfl rfl (op_lss rfl rfl rfl ?_); intro c14 h14
    refine AOps.nil ?_
    refine go_code ?_
    rcases bool_split h14 with ⟨rfl, g14⟩ | ⟨rfl, g14⟩
    · refine c_cond_f rfl ?_
      refine c_exit ?_
      refine x_code ?_
      refine x_lp ?_
      refine x_here ?_
      refine go_code ?_
      refine c_seq ?_
      refine c_region ?_
      refine AOps.st 4 rfl rfl rfl (op_assign rfl rfl ?_)
      refine AOps.nil ?_
      refine go_code ?_
      refine c_ret ?_
      exact out_tmp rfl rfl (Le.refl _) (by first | exact MLe.none _ | exact MLe.refl _ | (repeat' (first | exact MLe.nil | exact MLe.refl _ | refine MLe.cons _ ?_ | refine MLe.drop _ ?_))) ⟨⟨_, iff_t (hu.eq (by omega) (by omega)), rfl⟩, rfl⟩
    · refine c_cond_t rfl ?_
      refine c_skip ?_
      refine go_code ?_
      refine c_seq ?_
      refine c_block ?_
      refine c_seq ?_
      obtain ⟨⟨xk, xn⟩, hxx⟩ := get_some (l := xs) (i := i) (by first | omega | (simp at *; omega))
      have hcx := Ato.cellss_get hxx
      have hmx := List.mem_of_getElem? hxx
      obtain ⟨⟨yk, yn⟩, hxy⟩ := get_some (l := ys) (i := i) (by first | omega | (simp at *; omega))
      have hcy := Ato.cellss_get hxy
      have hmy := List.mem_of_getElem? hxy
      refine c_boold 40 (¬ (xk = yk ∧ xn = yn)) tmix rfl ?_ _ _ rfl ?_
      · skip
        refine DOps.st 17 rfl rfl (op_move rfl rfl ⟨rfl, rfl⟩) ?_
        refine DOps.st 18 rfl rfl (op_move rfl rfl ⟨rfl, rfl⟩) ?_
        refine DOps.st 19 rfl rfl (op_index rfl te_42 rfl (.seq _ _) rfl rfl (by assumption) ⟨rfl, rfl⟩) ?_
        first | (refine DOps.st 20 rfl rfl (op_fieldAddr_m rfl tf_41_0 rfl ⟨rfl, rfl⟩) ?_) | (refine DOps.st 20 rfl rfl (op_fieldAddr_c rfl tf_41_0 rfl rfl ⟨rfl, rfl⟩) ?_)
        first | (refine DOps.st 21 rfl rfl (op_load_m1 (i := 0) rfl ta_3 rfl rfl rfl ⟨rfl, rfl⟩) ?_) | (refine DOps.st 21 rfl rfl (op_load_m1 (i := 1) rfl ta_3 rfl rfl rfl ⟨rfl, rfl⟩) ?_) | (refine DOps.st 21 rfl rfl (op_load_m1 (i := 2) rfl ta_3 rfl rfl rfl ⟨rfl, rfl⟩) ?_) | (refine DOps.st 21 rfl rfl (op_load_m1 (i := 3) rfl ta_3 rfl rfl rfl ⟨rfl, rfl⟩) ?_) | (refine DOps.st 21 rfl rfl (op_load_m1 (i := 4) rfl ta_3 rfl rfl rfl ⟨rfl, rfl⟩) ?_) | (refine DOps.st 21 rfl rfl (op_load_m1 (i := 5) rfl ta_3 rfl rfl rfl ⟨rfl, rfl⟩) ?_) | (refine DOps.st 21 rfl rfl (op_load_m1 (i := 6) rfl ta_3 rfl rfl rfl ⟨rfl, rfl⟩) ?_) | (refine DOps.st 21 rfl rfl (op_load_m1 (i := 7) rfl ta_3 rfl rfl rfl ⟨rfl, rfl⟩) ?_) | (refine DOps.st 21 rfl rfl (op_load_m1 (i := 8) rfl ta_3 rfl rfl rfl ⟨rfl, rfl⟩) ?_) | (refine DOps.st 21 rfl rfl (op_load_m1 (i := 9) rfl ta_3 rfl rfl rfl ⟨rfl, rfl⟩) ?_) | (refine DOps.st 21 rfl rfl (op_load_c1 rfl ta_3 rfl rfl ⟨rfl, rfl⟩) ?_)
        refine DOps.st 22 rfl rfl (op_move rfl rfl ⟨rfl, rfl⟩) ?_
        refine DOps.st 23 rfl rfl (op_move rfl rfl ⟨rfl, rfl⟩) ?_
        refine DOps.st 24 rfl rfl (op_index rfl te_42 rfl (.seq _ _) rfl rfl (by assumption) ⟨rfl, rfl⟩) ?_
        first | (refine DOps.st 25 rfl rfl (op_fieldAddr_m rfl tf_41_0 rfl ⟨rfl, rfl⟩) ?_) | (refine DOps.st 25 rfl rfl (op_fieldAddr_c rfl tf_41_0 rfl rfl ⟨rfl, rfl⟩) ?_)
        first | (refine DOps.st 26 rfl rfl (op_load_m1 (i := 0) rfl ta_3 rfl rfl rfl ⟨rfl, rfl⟩) ?_) | (refine DOps.st 26 rfl rfl (op_load_m1 (i := 1) rfl ta_3 rfl rfl rfl ⟨rfl, rfl⟩) ?_) | (refine DOps.st 26 rfl rfl (op_load_m1 (i := 2) rfl ta_3 rfl rfl rfl ⟨rfl, rfl⟩) ?_) | (refine DOps.st 26 rfl rfl (op_load_m1 (i := 3) rfl ta_3 rfl rfl rfl ⟨rfl, rfl⟩) ?_) | (refine DOps.st 26 rfl rfl (op_load_m1 (i := 4) rfl ta_3 rfl rfl rfl ⟨rfl, rfl⟩) ?_) | (refine DOps.st 26 rfl rfl (op_load_m1 (i := 5) rfl ta_3 rfl rfl rfl ⟨rfl, rfl⟩) ?_) | (refine DOps.st 26 rfl rfl (op_load_m1 (i := 6) rfl ta_3 rfl rfl rfl ⟨rfl, rfl⟩) ?_) | (refine DOps.st 26 rfl rfl (op_load_m1 (i := 7) rfl ta_3 rfl rfl rfl ⟨rfl, rfl⟩) ?_) | (refine DOps.st 26 rfl rfl (op_load_m1 (i := 8) rfl ta_3 rfl rfl rfl ⟨rfl, rfl⟩) ?_) | (refine DOps.st 26 rfl rfl (op_load_m1 (i := 9) rfl ta_3 rfl rfl rfl ⟨rfl, rfl⟩) ?_) | (refine DOps.st 26 rfl rfl (op_load_c1 rfl ta_3 rfl rfl ⟨rfl, rfl⟩) ?_)
        refine DOps.cm 27 rfl rfl (fun _ q => op_neq rfl rfl rfl q) ?_; intro c27 h27
        refine DOps.st 28 rfl rfl (op_move rfl rfl ⟨rfl, rfl⟩) ?_
        rcases bool_split h27 with ⟨rfl, g27⟩ | ⟨rfl, g27⟩
        · skip
          refine DOps.gt 29 rfl rfl rfl rfl (op_move rfl rfl ⟨rfl, rfl⟩) ?_
          refine DOps.gt 30 rfl rfl rfl rfl (op_move rfl rfl ⟨rfl, rfl⟩) ?_
          refine DOps.gt 31 rfl rfl rfl rfl (op_index rfl te_42 rfl (.seq _ _) rfl rfl (by assumption) ⟨rfl, rfl⟩) ?_
          first | (refine DOps.gt 32 rfl rfl rfl rfl (op_fieldAddr_m rfl tf_41_1 rfl ⟨rfl, rfl⟩) ?_) | (refine DOps.gt 32 rfl rfl rfl rfl (op_fieldAddr_c rfl tf_41_1 rfl rfl ⟨rfl, rfl⟩) ?_)
          first | (refine DOps.gt 33 rfl rfl rfl rfl (op_load_m1 (i := 0) rfl ta_2 rfl rfl rfl ⟨rfl, rfl⟩) ?_) | (refine DOps.gt 33 rfl rfl rfl rfl (op_load_m1 (i := 1) rfl ta_2 rfl rfl rfl ⟨rfl, rfl⟩) ?_) | (refine DOps.gt 33 rfl rfl rfl rfl (op_load_m1 (i := 2) rfl ta_2 rfl rfl rfl ⟨rfl, rfl⟩) ?_) | (refine DOps.gt 33 rfl rfl rfl rfl (op_load_m1 (i := 3) rfl ta_2 rfl rfl rfl ⟨rfl, rfl⟩) ?_) | (refine DOps.gt 33 rfl rfl rfl rfl (op_load_m1 (i := 4) rfl ta_2 rfl rfl rfl ⟨rfl, rfl⟩) ?_) | (refine DOps.gt 33 rfl rfl rfl rfl (op_load_m1 (i := 5) rfl ta_2 rfl rfl rfl ⟨rfl, rfl⟩) ?_) | (refine DOps.gt 33 rfl rfl rfl rfl (op_load_m1 (i := 6) rfl ta_2 rfl rfl rfl ⟨rfl, rfl⟩) ?_) | (refine DOps.gt 33 rfl rfl rfl rfl (op_load_m1 (i := 7) rfl ta_2 rfl rfl rfl ⟨rfl, rfl⟩) ?_) | (refine DOps.gt 33 rfl rfl rfl rfl (op_load_m1 (i := 8) rfl ta_2 rfl rfl rfl ⟨rfl, rfl⟩) ?_) | (refine DOps.gt 33 rfl rfl rfl rfl (op_load_m1 (i := 9) rfl ta_2 rfl rfl rfl ⟨rfl, rfl⟩) ?_) | (refine DOps.gt 33 rfl rfl rfl rfl (op_load_c1 rfl ta_2 rfl rfl ⟨rfl, rfl⟩) ?_)
          refine DOps.gt 34 rfl rfl rfl rfl (op_move rfl rfl ⟨rfl, rfl⟩) ?_
          refine DOps.gt 35 rfl rfl rfl rfl (op_move rfl rfl ⟨rfl, rfl⟩) ?_
          refine DOps.gt 36 rfl rfl rfl rfl (op_index rfl te_42 rfl (.seq _ _) rfl rfl (by assumption) ⟨rfl, rfl⟩) ?_
          first | (refine DOps.gt 37 rfl rfl rfl rfl (op_fieldAddr_m rfl tf_41_1 rfl ⟨rfl, rfl⟩) ?_) | (refine DOps.gt 37 rfl rfl rfl rfl (op_fieldAddr_c rfl tf_41_1 rfl rfl ⟨rfl, rfl⟩) ?_)
          first | (refine DOps.gt 38 rfl rfl rfl rfl (op_load_m1 (i := 0) rfl ta_2 rfl rfl rfl ⟨rfl, rfl⟩) ?_) | (refine DOps.gt 38 rfl rfl rfl rfl (op_load_m1 (i := 1) rfl ta_2 rfl rfl rfl ⟨rfl, rfl⟩) ?_) | (refine DOps.gt 38 rfl rfl rfl rfl (op_load_m1 (i := 2) rfl ta_2 rfl rfl rfl ⟨rfl, rfl⟩) ?_) | (refine DOps.gt 38 rfl rfl rfl rfl (op_load_m1 (i := 3) rfl ta_2 rfl rfl rfl ⟨rfl, rfl⟩) ?_) | (refine DOps.gt 38 rfl rfl rfl rfl (op_load_m1 (i := 4) rfl ta_2 rfl rfl rfl ⟨rfl, rfl⟩) ?_) | (refine DOps.gt 38 rfl rfl rfl rfl (op_load_m1 (i := 5) rfl ta_2 rfl rfl rfl ⟨rfl, rfl⟩) ?_) | (refine DOps.gt 38 rfl rfl rfl rfl (op_load_m1 (i := 6) rfl ta_2 rfl rfl rfl ⟨rfl, rfl⟩) ?_) | (refine DOps.gt 38 rfl rfl rfl rfl (op_load_m1 (i := 7) rfl ta_2 rfl rfl rfl ⟨rfl, rfl⟩) ?_) | (refine DOps.gt 38 rfl rfl rfl rfl (op_load_m1 (i := 8) rfl ta_2 rfl rfl rfl ⟨rfl, rfl⟩) ?_) | (refine DOps.gt 38 rfl rfl rfl rfl (op_load_m1 (i := 9) rfl ta_2 rfl rfl rfl ⟨rfl, rfl⟩) ?_) | (refine DOps.gt 38 rfl rfl rfl rfl (op_load_c1 rfl ta_2 rfl rfl ⟨rfl, rfl⟩) ?_)
          refine DOps.gtc 39 rfl rfl rfl rfl (fun _ q => op_neq rfl rfl rfl q) ?_; intro c39 h39
          refine DOps.st 40 rfl rfl (op_pick rfl rfl rfl ⟨rfl, rfl⟩) ?_
          show BoolQ _ _ _ _ _ _
          refine BoolQ.mk rfl ?_ (by repeat' (first | exact SLe.wo _ _ | exact SLe.refl _ | refine SLe.fresh rfl ?_)) (by first | exact MLe.none _ | exact MLe.refl _ | (repeat' (first | exact MLe.nil | exact MLe.refl _ | refine MLe.cons _ ?_ | refine MLe.drop _ ?_)))
          simp_all; done
        · skip
          refine DOps.gf 29 rfl rfl rfl rfl ?_
          refine DOps.gf 30 rfl rfl rfl rfl ?_
          refine DOps.gf 31 rfl rfl rfl rfl ?_
          refine DOps.gf 32 rfl rfl rfl rfl ?_
          refine DOps.gf 33 rfl rfl rfl rfl ?_
          refine DOps.gf 34 rfl rfl rfl rfl ?_
          refine DOps.gf 35 rfl rfl rfl rfl ?_
          refine DOps.gf 36 rfl rfl rfl rfl ?_
          refine DOps.gf 37 rfl rfl rfl rfl ?_
          refine DOps.gf 38 rfl rfl rfl rfl ?_
          refine DOps.gf 39 rfl rfl rfl rfl ?_
          refine DOps.st 40 rfl rfl (op_pick rfl rfl rfl ⟨rfl, rfl⟩) ?_
          show BoolQ _ _ _ _ _ _
          refine BoolQ.mk rfl ?_ (by repeat' (first | exact SLe.wo _ _ | exact SLe.refl _ | refine SLe.fresh rfl ?_)) (by first | exact MLe.none _ | exact MLe.refl _ | (repeat' (first | exact MLe.nil | exact MLe.refl _ | refine MLe.cons _ ?_ | refine MLe.drop _ ?_)))
          simp_all; done
      intro c40 h40
      refine go_code ?_
      rcases bool_split h40 with ⟨rfl, g40⟩ | ⟨rfl, g40⟩
      · refine c_cond_f rfl ?_
        refine c_skip ?_
        refine go_blk ?_
        refine go_code ?_
        refine c_region ?_
        refine AOps.st 15 rfl rfl rfl (op_move rfl rfl ?_)
        refine AOps.st 16 rfl rfl rfl (op_add rfl rfl rfl (IntWalk.i64_in _ (by omega)) ?_)
        refine AOps.st 5 rfl rfl rfl (op_assign rfl rfl ?_)
        refine AOps.nil ?_
        refine go_lp ?_
        exact ⟨i + 1, ⟨by omega, hu.succ hxx hxy (by obtain ⟨rfl, rfl⟩ := Classical.not_not.1 g40; rfl)⟩, by simp; omega, (by repeat' (first | exact SLe.nil _ | refine SLe.cons rfl ?_ ?_ | exact Le.refl _ | exact Le.own _ _ _ | exact Le.nil _)), (by first | exact MLe.none _ | exact MLe.refl _ | (repeat' (first | exact MLe.nil | exact MLe.refl _ | refine MLe.cons _ ?_ | refine MLe.drop _ ?_)))⟩
      · refine c_cond_t rfl ?_
        refine c_seq ?_
        refine c_region ?_
        refine AOps.st 4 rfl rfl rfl (op_assign rfl rfl ?_)
        refine AOps.nil ?_
        refine go_code ?_
        refine c_ret ?_
        exact out_tmp rfl rfl (Le.refl _) (by first | exact MLe.none _ | exact MLe.refl _ | (repeat' (first | exact MLe.nil | exact MLe.refl _ | refine MLe.cons _ ?_ | refine MLe.drop _ ?_))) ⟨⟨_, iff_f (fun e => g40 (by subst e; rw [hxx] at hxy; cases hxy; exact ⟨rfl, rfl⟩)), rfl⟩, rfl⟩
  · refine c_cond_t rfl ?_
    refine c_seq ?_
    refine c_region ?_
    refine AOps.st 4 rfl rfl rfl (op_assign rfl rfl ?_)
    refine AOps.nil ?_
    refine go_code ?_
    refine c_ret ?_
    exact out_tmp rfl rfl (Le.refl _) (by first | exact MLe.none _ | exact MLe.refl _ | (repeat' (first | exact MLe.nil | exact MLe.refl _ | refine MLe.cons _ ?_ | refine MLe.drop _ ?_))) ⟨⟨_, iff_f (fun e => by subst e; omega), rfl⟩, rfl⟩
set_option maxHeartbeats 4000000 in
set_option maxRecDepth 100000 in
theorem rSame29_c (a b : Cd) : BCall Try.prog 10 [.agg a.cells, .agg b.cells] (a = b) := by
  obtain ⟨is1, fu1, tx1, gl1, ys1, no1⟩ := a
  obtain ⟨is2, fu2, tx2, gl2, ys2, no2⟩ := b
  have hk : ((Cd.mk is1 fu1 tx1 gl1 ys1 no1) = (Cd.mk is2 fu2 tx2 gl2 ys2 no2)) = (gl1 = gl2 ∧ ys1 = ys2 ∧ no1 = no2 ∧ tx1 = tx2 ∧ fu1 = fu2 ∧ is1 = is2) := propext (by constructor; (intro e; cases e; exact ⟨rfl, rfl, rfl, rfl, rfl, rfl⟩); (rintro ⟨rfl, rfl, rfl, rfl, rfl, rfl⟩; rfl))
  rw [hk]
  have hl1 := Is.cellss_len is1
  have hl2 := Is.cellss_len is2
  have hl3 := Cf.cellss_len fu1
  have hl4 := Cf.cellss_len fu2
  have hl5 := strs_len tx1
  have hl6 := strs_len tx2
  refine ACall.enter Try.func10 rfl (by kernel_rfl) rfl (Nat.le_of_ble_eq_true rfl) ?_
  refine c_start ?_
  refine c_lena (t := 0) (j := 0) rfl rfl (.seq _ _) (fun hmax => ?_)
  refine c_lena (t := 0) (j := 1) rfl rfl (.seq _ _) (fun hmax2 => ?_)
  refine c_lena (t := 0) (j := 2) rfl rfl (.seq _ _) (fun hmax3 => ?_)
  refine c_seq ?_
  refine c_region ?_
  refine AOps.st 2 rfl rfl rfl (op_boxc (cs' := [_, _, _, _, _, _]) rfl rfl rfl rfl ?_)
  refine AOps.st 3 rfl rfl rfl (op_boxc (cs' := [_, _, _, _, _, _]) rfl rfl rfl rfl ?_)
  refine AOps.st 4 rfl rfl rfl (op_assign rfl rfl ?_)
  refine AOps.nil ?_
  refine go_code ?_
  refine c_seq ?_
  refine c_seq ?_
  refine c_bool 57 (¬ (gl1 = gl2 ∧ ys1 = ys2 ∧ no1 = no2 ∧ tx1.length = tx2.length ∧ fu1.length = fu2.length ∧ is1.length = is2.length)) ?_ _ _ rfl ?_
  · skip
    refine AOps.st 12 rfl rfl rfl (op_fieldAddr_c rfl tf_26_3 rfl rfl ?_)
    refine AOps.st 13 rfl rfl rfl (op_load_c1 rfl ta_3 rfl rfl ?_)
    refine AOps.st 14 rfl rfl rfl (op_fieldAddr_c rfl tf_26_3 rfl rfl ?_)
    refine AOps.st 15 rfl rfl rfl (op_load_c1 rfl ta_3 rfl rfl ?_)
    refine AOps.st 16 rfl rfl rfl (op_neq rfl rfl rfl ?_); intro c16 h16
    refine AOps.st 17 rfl rfl rfl (op_move rfl rfl ?_)
    rcases bool_split h16 with ⟨rfl, g16⟩ | ⟨rfl, g16⟩
    · skip
      refine AOps.gt 18 rfl rfl rfl rfl rfl (op_fieldAddr_c rfl tf_26_4 rfl rfl ?_)
      refine AOps.gt 19 rfl rfl rfl rfl rfl (op_load_c1 rfl ta_3 rfl rfl ?_)
      refine AOps.gt 20 rfl rfl rfl rfl rfl (op_fieldAddr_c rfl tf_26_4 rfl rfl ?_)
      refine AOps.gt 21 rfl rfl rfl rfl rfl (op_load_c1 rfl ta_3 rfl rfl ?_)
      refine AOps.gt 22 rfl rfl rfl rfl rfl (op_neq rfl rfl rfl ?_); intro c22 h22
      refine AOps.st 23 rfl rfl rfl (op_pick rfl rfl rfl ?_)
      refine AOps.st 24 rfl rfl rfl (op_move rfl rfl ?_)
      rcases bool_split h22 with ⟨rfl, g22⟩ | ⟨rfl, g22⟩
      · skip
        refine AOps.gt 25 rfl rfl rfl rfl rfl (op_fieldAddr_c rfl tf_26_5 rfl rfl ?_)
        refine AOps.gt 26 rfl rfl rfl rfl rfl (op_load_c1 rfl ta_3 rfl rfl ?_)
        refine AOps.gt 27 rfl rfl rfl rfl rfl (op_fieldAddr_c rfl tf_26_5 rfl rfl ?_)
        refine AOps.gt 28 rfl rfl rfl rfl rfl (op_load_c1 rfl ta_3 rfl rfl ?_)
        refine AOps.gt 29 rfl rfl rfl rfl rfl (op_neq rfl rfl rfl ?_); intro c29 h29
        refine AOps.st 30 rfl rfl rfl (op_pick rfl rfl rfl ?_)
        refine AOps.st 31 rfl rfl rfl (op_move rfl rfl ?_)
        rcases bool_split h29 with ⟨rfl, g29⟩ | ⟨rfl, g29⟩
        · skip
          refine AOps.gt 32 rfl rfl rfl rfl rfl (op_fieldAddr_c rfl tf_26_2 rfl rfl ?_)
          refine AOps.gt 33 rfl rfl rfl rfl rfl (op_load_c1 rfl ta_24 rfl rfl ?_)
          refine AOps.gt 34 rfl rfl rfl rfl rfl (op_len rfl tu_24 rfl (.seq _ _) (fun n34 => ?_))
          refine AOps.gt 35 rfl rfl rfl rfl rfl (op_fieldAddr_c rfl tf_26_2 rfl rfl ?_)
          refine AOps.gt 36 rfl rfl rfl rfl rfl (op_load_c1 rfl ta_24 rfl rfl ?_)
          refine AOps.gt 37 rfl rfl rfl rfl rfl (op_len rfl tu_24 rfl (.seq _ _) (fun n37 => ?_))
          refine AOps.gt 38 rfl rfl rfl rfl rfl (op_neq rfl rfl rfl ?_); intro c38 h38
          refine AOps.st 39 rfl rfl rfl (op_pick rfl rfl rfl ?_)
          refine AOps.st 40 rfl rfl rfl (op_move rfl rfl ?_)
          rcases bool_split h38 with ⟨rfl, g38⟩ | ⟨rfl, g38⟩
          · skip
            refine AOps.gt 41 rfl rfl rfl rfl rfl (op_fieldAddr_c rfl tf_26_1 rfl rfl ?_)
            refine AOps.gt 42 rfl rfl rfl rfl rfl (op_load_c1 rfl ta_23 rfl rfl ?_)
            refine AOps.gt 43 rfl rfl rfl rfl rfl (op_len rfl tu_23 rfl (.seq _ _) (fun n43 => ?_))
            refine AOps.gt 44 rfl rfl rfl rfl rfl (op_fieldAddr_c rfl tf_26_1 rfl rfl ?_)
            refine AOps.gt 45 rfl rfl rfl rfl rfl (op_load_c1 rfl ta_23 rfl rfl ?_)
            refine AOps.gt 46 rfl rfl rfl rfl rfl (op_len rfl tu_23 rfl (.seq _ _) (fun n46 => ?_))
            refine AOps.gt 47 rfl rfl rfl rfl rfl (op_neq rfl rfl rfl ?_); intro c47 h47
            refine AOps.st 48 rfl rfl rfl (op_pick rfl rfl rfl ?_)
            refine AOps.st 49 rfl rfl rfl (op_move rfl rfl ?_)
            rcases bool_split h47 with ⟨rfl, g47⟩ | ⟨rfl, g47⟩
            · skip
              refine AOps.gt 50 rfl rfl rfl rfl rfl (op_fieldAddr_c rfl tf_26_0 rfl rfl ?_)
              refine AOps.gt 51 rfl rfl rfl rfl rfl (op_load_c1 rfl ta_22 rfl rfl ?_)
              refine AOps.gt 52 rfl rfl rfl rfl rfl (op_len rfl tu_22 rfl (.seq _ _) (fun n52 => ?_))
              refine AOps.gt 53 rfl rfl rfl rfl rfl (op_fieldAddr_c rfl tf_26_0 rfl rfl ?_)
              refine AOps.gt 54 rfl rfl rfl rfl rfl (op_load_c1 rfl ta_22 rfl rfl ?_)
              refine AOps.gt 55 rfl rfl rfl rfl rfl (op_len rfl tu_22 rfl (.seq _ _) (fun n55 => ?_))
              refine AOps.gt 56 rfl rfl rfl rfl rfl (op_neq rfl rfl rfl ?_); intro c56 h56
              refine AOps.st 57 rfl rfl rfl (op_pick rfl rfl rfl ?_)
              refine AOps.nil ?_
              refine BoolQ.mk rfl ?_ (by repeat' (first | exact SLe.wo _ _ | exact SLe.refl _ | refine SLe.fresh rfl ?_)) (by first | exact MLe.none _ | exact MLe.refl _ | (repeat' (first | exact MLe.nil | exact MLe.refl _ | refine MLe.cons _ ?_ | refine MLe.drop _ ?_)))
              first | (simp only [true_iff]; omega) | (rw [h56]; omega)
            · skip
              refine AOps.gf 50 rfl rfl rfl rfl rfl ?_
              refine AOps.gf 51 rfl rfl rfl rfl rfl ?_
              refine AOps.gf 52 rfl rfl rfl rfl rfl ?_
              refine AOps.gf 53 rfl rfl rfl rfl rfl ?_
              refine AOps.gf 54 rfl rfl rfl rfl rfl ?_
              refine AOps.gf 55 rfl rfl rfl rfl rfl ?_
              refine AOps.gf 56 rfl rfl rfl rfl rfl ?_
              refine AOps.st 57 rfl rfl rfl (op_pick rfl rfl rfl ?_)
              refine AOps.nil ?_
              refine BoolQ.mk rfl ?_ (by repeat' (first | exact SLe.wo _ _ | exact SLe.refl _ | refine SLe.fresh rfl ?_)) (by first | exact MLe.none _ | exact MLe.refl _ | (repeat' (first | exact MLe.nil | exact MLe.refl _ | refine MLe.cons _ ?_ | refine MLe.drop _ ?_)))
              simp only [true_iff]; omega
          · skip
            refine AOps.gf 41 rfl rfl rfl rfl rfl ?_
            refine AOps.gf 42 rfl rfl rfl rfl rfl ?_
            refine AOps.gf 43 rfl rfl rfl rfl rfl ?_
            refine AOps.gf 44 rfl rfl rfl rfl rfl ?_
            refine AOps.gf 45 rfl rfl rfl rfl rfl ?_
            refine AOps.gf 46 rfl rfl rfl rfl rfl ?_
            refine AOps.gf 47 rfl rfl rfl rfl rfl ?_
            refine AOps.st 48 rfl rfl rfl (op_pick rfl rfl rfl ?_)
            refine AOps.st 49 rfl rfl rfl (op_move rfl rfl ?_)
            refine AOps.gf 50 rfl rfl rfl rfl rfl ?_
            refine AOps.gf 51 rfl rfl rfl rfl rfl ?_
            refine AOps.gf 52 rfl rfl rfl rfl rfl ?_
            refine AOps.gf 53 rfl rfl rfl rfl rfl ?_
            refine AOps.gf 54 rfl rfl rfl rfl rfl ?_
            refine AOps.gf 55 rfl rfl rfl rfl rfl ?_
            refine AOps.gf 56 rfl rfl rfl rfl rfl ?_
            refine AOps.st 57 rfl rfl rfl (op_pick rfl rfl rfl ?_)
            refine AOps.nil ?_
            refine BoolQ.mk rfl ?_ (by repeat' (first | exact SLe.wo _ _ | exact SLe.refl _ | refine SLe.fresh rfl ?_)) (by first | exact MLe.none _ | exact MLe.refl _ | (repeat' (first | exact MLe.nil | exact MLe.refl _ | refine MLe.cons _ ?_ | refine MLe.drop _ ?_)))
            simp only [true_iff]; omega
        · skip
          refine AOps.gf 32 rfl rfl rfl rfl rfl ?_
          refine AOps.gf 33 rfl rfl rfl rfl rfl ?_
          refine AOps.gf 34 rfl rfl rfl rfl rfl ?_
          refine AOps.gf 35 rfl rfl rfl rfl rfl ?_
          refine AOps.gf 36 rfl rfl rfl rfl rfl ?_
          refine AOps.gf 37 rfl rfl rfl rfl rfl ?_
          refine AOps.gf 38 rfl rfl rfl rfl rfl ?_
          refine AOps.st 39 rfl rfl rfl (op_pick rfl rfl rfl ?_)
          refine AOps.st 40 rfl rfl rfl (op_move rfl rfl ?_)
          refine AOps.gf 41 rfl rfl rfl rfl rfl ?_
          refine AOps.gf 42 rfl rfl rfl rfl rfl ?_
          refine AOps.gf 43 rfl rfl rfl rfl rfl ?_
          refine AOps.gf 44 rfl rfl rfl rfl rfl ?_
          refine AOps.gf 45 rfl rfl rfl rfl rfl ?_
          refine AOps.gf 46 rfl rfl rfl rfl rfl ?_
          refine AOps.gf 47 rfl rfl rfl rfl rfl ?_
          refine AOps.st 48 rfl rfl rfl (op_pick rfl rfl rfl ?_)
          refine AOps.st 49 rfl rfl rfl (op_move rfl rfl ?_)
          refine AOps.gf 50 rfl rfl rfl rfl rfl ?_
          refine AOps.gf 51 rfl rfl rfl rfl rfl ?_
          refine AOps.gf 52 rfl rfl rfl rfl rfl ?_
          refine AOps.gf 53 rfl rfl rfl rfl rfl ?_
          refine AOps.gf 54 rfl rfl rfl rfl rfl ?_
          refine AOps.gf 55 rfl rfl rfl rfl rfl ?_
          refine AOps.gf 56 rfl rfl rfl rfl rfl ?_
          refine AOps.st 57 rfl rfl rfl (op_pick rfl rfl rfl ?_)
          refine AOps.nil ?_
          refine BoolQ.mk rfl ?_ (by repeat' (first | exact SLe.wo _ _ | exact SLe.refl _ | refine SLe.fresh rfl ?_)) (by first | exact MLe.none _ | exact MLe.refl _ | (repeat' (first | exact MLe.nil | exact MLe.refl _ | refine MLe.cons _ ?_ | refine MLe.drop _ ?_)))
          simp only [true_iff]; omega
      · skip
        refine AOps.gf 25 rfl rfl rfl rfl rfl ?_
        refine AOps.gf 26 rfl rfl rfl rfl rfl ?_
        refine AOps.gf 27 rfl rfl rfl rfl rfl ?_
        refine AOps.gf 28 rfl rfl rfl rfl rfl ?_
        refine AOps.gf 29 rfl rfl rfl rfl rfl ?_
        refine AOps.st 30 rfl rfl rfl (op_pick rfl rfl rfl ?_)
        refine AOps.st 31 rfl rfl rfl (op_move rfl rfl ?_)
        refine AOps.gf 32 rfl rfl rfl rfl rfl ?_
        refine AOps.gf 33 rfl rfl rfl rfl rfl ?_
        refine AOps.gf 34 rfl rfl rfl rfl rfl ?_
        refine AOps.gf 35 rfl rfl rfl rfl rfl ?_
        refine AOps.gf 36 rfl rfl rfl rfl rfl ?_
        refine AOps.gf 37 rfl rfl rfl rfl rfl ?_
        refine AOps.gf 38 rfl rfl rfl rfl rfl ?_
        refine AOps.st 39 rfl rfl rfl (op_pick rfl rfl rfl ?_)
        refine AOps.st 40 rfl rfl rfl (op_move rfl rfl ?_)
        refine AOps.gf 41 rfl rfl rfl rfl rfl ?_
        refine AOps.gf 42 rfl rfl rfl rfl rfl ?_
        refine AOps.gf 43 rfl rfl rfl rfl rfl ?_
        refine AOps.gf 44 rfl rfl rfl rfl rfl ?_
        refine AOps.gf 45 rfl rfl rfl rfl rfl ?_
        refine AOps.gf 46 rfl rfl rfl rfl rfl ?_
        refine AOps.gf 47 rfl rfl rfl rfl rfl ?_
        refine AOps.st 48 rfl rfl rfl (op_pick rfl rfl rfl ?_)
        refine AOps.st 49 rfl rfl rfl (op_move rfl rfl ?_)
        refine AOps.gf 50 rfl rfl rfl rfl rfl ?_
        refine AOps.gf 51 rfl rfl rfl rfl rfl ?_
        refine AOps.gf 52 rfl rfl rfl rfl rfl ?_
        refine AOps.gf 53 rfl rfl rfl rfl rfl ?_
        refine AOps.gf 54 rfl rfl rfl rfl rfl ?_
        refine AOps.gf 55 rfl rfl rfl rfl rfl ?_
        refine AOps.gf 56 rfl rfl rfl rfl rfl ?_
        refine AOps.st 57 rfl rfl rfl (op_pick rfl rfl rfl ?_)
        refine AOps.nil ?_
        refine BoolQ.mk rfl ?_ (by repeat' (first | exact SLe.wo _ _ | exact SLe.refl _ | refine SLe.fresh rfl ?_)) (by first | exact MLe.none _ | exact MLe.refl _ | (repeat' (first | exact MLe.nil | exact MLe.refl _ | refine MLe.cons _ ?_ | refine MLe.drop _ ?_)))
        simp only [true_iff]; omega
    · skip
      refine AOps.gf 18 rfl rfl rfl rfl rfl ?_
      refine AOps.gf 19 rfl rfl rfl rfl rfl ?_
      refine AOps.gf 20 rfl rfl rfl rfl rfl ?_
      refine AOps.gf 21 rfl rfl rfl rfl rfl ?_
      refine AOps.gf 22 rfl rfl rfl rfl rfl ?_
      refine AOps.st 23 rfl rfl rfl (op_pick rfl rfl rfl ?_)
      refine AOps.st 24 rfl rfl rfl (op_move rfl rfl ?_)
      refine AOps.gf 25 rfl rfl rfl rfl rfl ?_
      refine AOps.gf 26 rfl rfl rfl rfl rfl ?_
      refine AOps.gf 27 rfl rfl rfl rfl rfl ?_
      refine AOps.gf 28 rfl rfl rfl rfl rfl ?_
      refine AOps.gf 29 rfl rfl rfl rfl rfl ?_
      refine AOps.st 30 rfl rfl rfl (op_pick rfl rfl rfl ?_)
      refine AOps.st 31 rfl rfl rfl (op_move rfl rfl ?_)
      refine AOps.gf 32 rfl rfl rfl rfl rfl ?_
      refine AOps.gf 33 rfl rfl rfl rfl rfl ?_
      refine AOps.gf 34 rfl rfl rfl rfl rfl ?_
      refine AOps.gf 35 rfl rfl rfl rfl rfl ?_
      refine AOps.gf 36 rfl rfl rfl rfl rfl ?_
      refine AOps.gf 37 rfl rfl rfl rfl rfl ?_
      refine AOps.gf 38 rfl rfl rfl rfl rfl ?_
      refine AOps.st 39 rfl rfl rfl (op_pick rfl rfl rfl ?_)
      refine AOps.st 40 rfl rfl rfl (op_move rfl rfl ?_)
      refine AOps.gf 41 rfl rfl rfl rfl rfl ?_
      refine AOps.gf 42 rfl rfl rfl rfl rfl ?_
      refine AOps.gf 43 rfl rfl rfl rfl rfl ?_
      refine AOps.gf 44 rfl rfl rfl rfl rfl ?_
      refine AOps.gf 45 rfl rfl rfl rfl rfl ?_
      refine AOps.gf 46 rfl rfl rfl rfl rfl ?_
      refine AOps.gf 47 rfl rfl rfl rfl rfl ?_
      refine AOps.st 48 rfl rfl rfl (op_pick rfl rfl rfl ?_)
      refine AOps.st 49 rfl rfl rfl (op_move rfl rfl ?_)
      refine AOps.gf 50 rfl rfl rfl rfl rfl ?_
      refine AOps.gf 51 rfl rfl rfl rfl rfl ?_
      refine AOps.gf 52 rfl rfl rfl rfl rfl ?_
      refine AOps.gf 53 rfl rfl rfl rfl rfl ?_
      refine AOps.gf 54 rfl rfl rfl rfl rfl ?_
      refine AOps.gf 55 rfl rfl rfl rfl rfl ?_
      refine AOps.gf 56 rfl rfl rfl rfl rfl ?_
      refine AOps.st 57 rfl rfl rfl (op_pick rfl rfl rfl ?_)
      refine AOps.nil ?_
      refine BoolQ.mk rfl ?_ (by repeat' (first | exact SLe.wo _ _ | exact SLe.refl _ | refine SLe.fresh rfl ?_)) (by first | exact MLe.none _ | exact MLe.refl _ | (repeat' (first | exact MLe.nil | exact MLe.refl _ | refine MLe.cons _ ?_ | refine MLe.drop _ ?_)))
      simp only [true_iff]; omega
  intro c57 h57
  refine go_code ?_
  rcases bool_split h57 with ⟨rfl, g57⟩ | ⟨rfl, g57⟩
  · refine c_cond_f rfl ?_
    refine c_skip ?_
    refine go_code ?_
    refine c_seq ?_
    refine c_seq ?_
    obtain ⟨e1, e2, e3, e4, e5, e6⟩ := Classical.not_not.1 g57
    refine c_region ?_
    refine AOps.st 5 rfl rfl rfl (op_assign rfl rfl ?_)
    refine AOps.nil ?_
    refine go_code ?_
    refine c_block ?_
    apply c_loopkm [0, 1, 4, 5, 12, 13, 14, 15, 16, 17, 18, 19, 20, 21, 22, 23, 24, 25, 26, 27, 28, 29, 30, 31, 32, 33, 34, 35, 36, 37, 38, 39, 40, 41, 42, 43, 44, 45, 46, 47, 48, 49, 50, 51, 52, 53, 54, 55, 56, 57, 58, 59, 60, 61, 62, 63, 64, 65, 66, 67, 68, 69, 70, 71, 72, 73, 74, 75] (σ := Nat) (fun zz => match zz with | i => [(5, .val (.int .i64 i))]) (fun zz => match zz with | i => i ≤ tx1.length ∧ Upto tx1 tx2 i) (fun zz => match zz with | i => tx1.length - i) (0)
    · repeat' (first | exact Drops.nil | apply Drops.keep rfl | apply Drops.skip rfl)
    · exact ⟨by omega, Upto.zero _ _⟩
    · exact (by repeat' (first | exact SLe.nil _ | refine SLe.cons rfl ?_ ?_ | exact Le.refl _ | exact Le.own _ _ _ | exact Le.nil _))
    rintro i hI
    try dsimp only [List.cons_append, List.nil_append] at hI ⊢
    obtain ⟨hi, hu⟩ := hI
    refine c_seq ?_
    refine c_seq ?_
    refine c_region ?_
    refine AOps.st 58 rfl rfl rfl (op_move rfl rfl ?_)
    refine AOps.st 59 rfl rfl rfl (op_fieldAddr_c rfl tf_26_2 rfl rfl ?_)
    refine AOps.st 60 rfl rfl rfl (op_load_c1 rfl ta_24 rfl rfl ?_)
    refine AOps.st 61 rfl rfl rfl (op_len rfl tu_24 rfl (.seq _ _) (fun n61 => ?_))
    refine AOps.st 62 rfl rfl rfl (op_lss rfl rfl rfl ?_); intro c62 h62
    refine AOps.nil ?_
    refine go_code ?_
    rcases bool_split h62 with ⟨rfl, g62⟩ | ⟨rfl, g62⟩
    · refine c_cond_f rfl ?_
      refine c_exit ?_
      refine x_code ?_
      refine x_lp ?_
      refine x_here ?_
      refine go_code ?_
      refine c_seq ?_
      refine c_seq ?_
      have etx := hu.eq (by omega) (by omega)
      refine c_region ?_
      refine AOps.st 6 rfl rfl rfl (op_assign rfl rfl ?_)
      refine AOps.nil ?_
      refine go_code ?_
      refine c_block ?_
      apply c_loopkm [0, 1, 4, 5, 6, 12, 13, 14, 15, 16, 17, 18, 19, 20, 21, 22, 23, 24, 25, 26, 27, 28, 29, 30, 31, 32, 33, 34, 35, 36, 37, 38, 39, 40, 41, 42, 43, 44, 45, 46, 47, 48, 49, 50, 51, 52, 53, 54, 55, 56, 57, 58, 59, 60, 61, 62, 63, 64, 65, 66, 67, 68, 69, 70, 71, 72, 73, 74, 75, 76, 77, 78, 79, 80, 81, 82, 83, 84, 85, 86, 87, 88, 89, 90, 91, 92, 93, 94, 95, 96, 97, 98, 99, 100, 101, 102, 103, 104, 105, 106, 107, 108, 109, 110, 111, 112, 113, 114, 115, 116, 117, 118, 119, 120, 121, 122, 123, 124, 125] (σ := Nat) (fun zz => match zz with | i => [(6, .val (.int .i64 i))]) (fun zz => match zz with | i => i ≤ fu1.length ∧ Upto fu1 fu2 i) (fun zz => match zz with | i => fu1.length - i) (0)
      · repeat' (first | exact Drops.nil | apply Drops.keep rfl | apply Drops.skip rfl)
      · exact ⟨by omega, Upto.zero _ _⟩
      · exact (by repeat' (first | exact SLe.nil _ | refine SLe.cons rfl ?_ ?_ | exact Le.refl _ | exact Le.own _ _ _ | exact Le.nil _))
      rintro i hI
      try dsimp only [List.cons_append, List.nil_append] at hI ⊢
      obtain ⟨hi, hu⟩ := hI
      refine c_seq ?_
      refine c_seq ?_
      refine c_region ?_
      refine AOps.st 76 rfl rfl rfl (op_move rfl rfl ?_)
      refine AOps.st 77 rfl rfl rfl (op_fieldAddr_c rfl tf_26_1 rfl rfl ?_)
      refine AOps.st 78 rfl rfl rfl (op_load_c1 rfl ta_23 rfl rfl ?_)
      refine AOps.st 79 rfl rfl rfl (op_len rfl tu_23 rfl (.seq _ _) (fun n79 => ?_))
      refine AOps.st 80 rfl rfl rfl (op_lss rfl rfl rfl ?_); intro c80 h80
      refine AOps.nil ?_
      refine go_code ?_
      rcases bool_split h80 with ⟨rfl, g80⟩ | ⟨rfl, g80⟩
      · refine c_cond_f rfl ?_
        refine c_exit ?_
        refine x_code ?_
        refine x_lp ?_
        refine x_here ?_
        refine go_code ?_
        refine c_seq ?_
        refine c_seq ?_
        have efu := hu.eq (by omega) (by omega)
        refine c_region ?_
        refine AOps.st 7 rfl rfl rfl (op_assign rfl rfl ?_)
        refine AOps.nil ?_
        refine go_code ?_
        refine c_block ?_
        apply c_loopkm [0, 1, 4, 5, 6, 7, 8, 9, 10, 11, 12, 13, 14, 15, 16, 17, 18, 19, 20, 21, 22, 23, 24, 25, 26, 27, 28, 29, 30, 31, 32, 33, 34, 35, 36, 37, 38, 39, 40, 41, 42, 43, 44, 45, 46, 47, 48, 49, 50, 51, 52, 53, 54, 55, 56, 57, 58, 59, 60, 61, 62, 63, 64, 65, 66, 67, 68, 69, 70, 71, 72, 73, 74, 75, 76, 77, 78, 79, 80, 81, 82, 83, 84, 85, 86, 87, 88, 89, 90, 91, 92, 93, 94, 95, 96, 97, 98, 99, 100, 101, 102, 103, 104, 105, 106, 107, 108, 109, 110, 111, 112, 113, 114, 115, 116, 117, 118, 119, 120, 121, 122, 123, 124, 125, 126, 127, 128, 129, 130, 131, 132, 133, 134, 135, 136, 137, 138, 139, 140, 141, 142, 143, 144, 145, 146, 147, 148, 149, 150, 151, 152, 153, 154, 155, 156, 157, 158, 159, 160, 161, 162, 163, 164, 165, 166, 167, 168, 169, 170, 171, 172, 173, 174, 175, 176, 177, 178, 179, 180, 181, 182, 183, 184, 185, 186, 187, 188, 189, 190, 191, 192, 193, 194, 195, 196, 197, 198, 199, 200, 201, 202, 203, 204, 205, 206, 207, 208, 209, 210, 211, 212, 213, 214, 215, 216, 217, 218, 219, 220, 221, 222, 223, 224, 225, 226, 227, 228, 229, 230, 231] (σ := Nat) (fun zz => match zz with | i => [(7, .val (.int .i64 i))]) (fun zz => match zz with | i => i ≤ is1.length ∧ Upto is1 is2 i) (fun zz => match zz with | i => is1.length - i) (0)
        · repeat' (first | exact Drops.nil | apply Drops.keep rfl | apply Drops.skip rfl)
        · exact ⟨by omega, Upto.zero _ _⟩
        · exact (by repeat' (first | exact SLe.nil _ | refine SLe.cons rfl ?_ ?_ | exact Le.refl _ | exact Le.own _ _ _ | exact Le.nil _))
        rintro i hI
        try dsimp only [List.cons_append, List.nil_append] at hI ⊢
        obtain ⟨hi, hu⟩ := hI
        refine c_seq ?_
        refine c_seq ?_
        refine c_region ?_
        refine AOps.st 126 rfl rfl rfl (op_move rfl rfl ?_)
        refine AOps.st 127 rfl rfl rfl (op_fieldAddr_c rfl tf_26_0 rfl rfl ?_)
        refine AOps.st 128 rfl rfl rfl (op_load_c1 rfl ta_22 rfl rfl ?_)
        refine AOps.st 129 rfl rfl rfl (op_len rfl tu_22 rfl (.seq _ _) (fun n129 => ?_))
        refine AOps.st 130 rfl rfl rfl (op_lss rfl rfl rfl ?_); intro c130 h130
        refine AOps.nil ?_
        refine go_code ?_
        rcases bool_split h130 with ⟨rfl, g130⟩ | ⟨rfl, g130⟩
        · refine c_cond_f rfl ?_
          refine c_exit ?_
          refine x_code ?_
          refine x_lp ?_
          refine x_here ?_
          refine go_code ?_
          refine c_seq ?_
          refine c_region ?_
          refine AOps.st 4 rfl rfl rfl (op_assign rfl rfl ?_)
          refine AOps.nil ?_
          refine go_code ?_
          refine c_ret ?_
          exact out_tmp rfl rfl (Le.refl _) (by first | exact MLe.none _ | exact MLe.refl _ | (repeat' (first | exact MLe.nil | exact MLe.refl _ | refine MLe.cons _ ?_ | refine MLe.drop _ ?_))) ⟨⟨_, iff_t ⟨e1, e2, e3, etx, efu, hu.eq (by omega) (by omega)⟩, rfl⟩, rfl⟩
        · refine c_cond_t rfl ?_
          refine c_skip ?_
          refine go_code ?_
          refine c_seq ?_
          refine c_block ?_
          refine c_seq ?_
          obtain ⟨⟨xop, xa, xb, xn, xar, xfs, xcp⟩, hxx⟩ := get_some (l := is1) (i := i) (by first | omega | (simp at *; omega))
          have hcx := Is.cellss_get hxx
          have hmx := List.mem_of_getElem? hxx
          obtain ⟨⟨yop, ya, yb, yn, yar, yfs, ycp⟩, hxy⟩ := get_some (l := is2) (i := i) (by first | omega | (simp at *; omega))
          have hcy := Is.cellss_get hxy
          have hmy := List.mem_of_getElem? hxy
          have hf1 := nums_len xfs
          have hf2 := nums_len yfs
          have hc1 := Ato.cellsss_len xcp
          have hc2 := Ato.cellsss_len ycp
          have hne : ¬ (⟨xop, xa, xb, xn, xar, xfs, xcp⟩ : Is) = ⟨yop, ya, yb, yn, yar, yfs, ycp⟩ → ¬ is1 = is2 := fun q e => q (by subst e; rw [hxx] at hxy; exact Option.some.inj hxy)
          refine c_region ?_
          refine AOps.st 133 rfl rfl rfl (op_fieldAddr_c rfl tf_26_0 rfl rfl ?_)
          refine AOps.st 134 rfl rfl rfl (op_load_c1 rfl ta_22 rfl rfl ?_)
          refine AOps.st 135 rfl rfl rfl (op_move rfl rfl ?_)
          refine AOps.st 136 rfl rfl rfl (op_index rfl te_22 rfl (.seq _ _) rfl rfl (by assumption) ?_)
          first | (refine AOps.st 137 rfl rfl rfl (op_load_m (cs' := [_, _, _, _, _, _, _]) (i := 0) rfl ta_46 rfl rfl rfl rfl ?_)) | (refine AOps.st 137 rfl rfl rfl (op_load_m (cs' := [_, _, _, _, _, _, _]) (i := 1) rfl ta_46 rfl rfl rfl rfl ?_)) | (refine AOps.st 137 rfl rfl rfl (op_load_m (cs' := [_, _, _, _, _, _, _]) (i := 2) rfl ta_46 rfl rfl rfl rfl ?_)) | (refine AOps.st 137 rfl rfl rfl (op_load_m (cs' := [_, _, _, _, _, _, _]) (i := 3) rfl ta_46 rfl rfl rfl rfl ?_)) | (refine AOps.st 137 rfl rfl rfl (op_load_m (cs' := [_, _, _, _, _, _, _]) (i := 4) rfl ta_46 rfl rfl rfl rfl ?_)) | (refine AOps.st 137 rfl rfl rfl (op_load_m (cs' := [_, _, _, _, _, _, _]) (i := 5) rfl ta_46 rfl rfl rfl rfl ?_)) | (refine AOps.st 137 rfl rfl rfl (op_load_m (cs' := [_, _, _, _, _, _, _]) (i := 6) rfl ta_46 rfl rfl rfl rfl ?_)) | (refine AOps.st 137 rfl rfl rfl (op_load_m (cs' := [_, _, _, _, _, _, _]) (i := 7) rfl ta_46 rfl rfl rfl rfl ?_)) | (refine AOps.st 137 rfl rfl rfl (op_load_m (cs' := [_, _, _, _, _, _, _]) (i := 8) rfl ta_46 rfl rfl rfl rfl ?_)) | (refine AOps.st 137 rfl rfl rfl (op_load_m (cs' := [_, _, _, _, _, _, _]) (i := 9) rfl ta_46 rfl rfl rfl rfl ?_)) | (refine AOps.st 137 rfl rfl rfl (op_load_c (cs' := [_, _, _, _, _, _, _]) rfl ta_46 rfl rfl rfl ?_))
          refine AOps.st 8 rfl rfl rfl (op_alloce (cs' := [_, _, _, _, _, _, _]) rfl tz_46 rfl rfl ?_); intro b8
          refine AOps.st0 rfl rfl (op_store (cs' := [_, _, _, _, _, _, _]) (i := 0) rfl ts_46 rfl rfl rfl rfl rfl (Nat.le_of_ble_eq_true rfl) rfl ?_)
          refine AOps.nil ?_
          refine go_code ?_
          refine c_seq ?_
          refine c_region ?_
          refine AOps.st 138 rfl rfl rfl (op_fieldAddr_c rfl tf_26_0 rfl rfl ?_)
          refine AOps.st 139 rfl rfl rfl (op_load_c1 rfl ta_22 rfl rfl ?_)
          refine AOps.st 140 rfl rfl rfl (op_move rfl rfl ?_)
          refine AOps.st 141 rfl rfl rfl (op_index rfl te_22 rfl (.seq _ _) rfl rfl (by assumption) ?_)
          first | (refine AOps.st 142 rfl rfl rfl (op_load_m (cs' := [_, _, _, _, _, _, _]) (i := 0) rfl ta_46 rfl rfl rfl rfl ?_)) | (refine AOps.st 142 rfl rfl rfl (op_load_m (cs' := [_, _, _, _, _, _, _]) (i := 1) rfl ta_46 rfl rfl rfl rfl ?_)) | (refine AOps.st 142 rfl rfl rfl (op_load_m (cs' := [_, _, _, _, _, _, _]) (i := 2) rfl ta_46 rfl rfl rfl rfl ?_)) | (refine AOps.st 142 rfl rfl rfl (op_load_m (cs' := [_, _, _, _, _, _, _]) (i := 3) rfl ta_46 rfl rfl rfl rfl ?_)) | (refine AOps.st 142 rfl rfl rfl (op_load_m (cs' := [_, _, _, _, _, _, _]) (i := 4) rfl ta_46 rfl rfl rfl rfl ?_)) | (refine AOps.st 142 rfl rfl rfl (op_load_m (cs' := [_, _, _, _, _, _, _]) (i := 5) rfl ta_46 rfl rfl rfl rfl ?_)) | (refine AOps.st 142 rfl rfl rfl (op_load_m (cs' := [_, _, _, _, _, _, _]) (i := 6) rfl ta_46 rfl rfl rfl rfl ?_)) | (refine AOps.st 142 rfl rfl rfl (op_load_m (cs' := [_, _, _, _, _, _, _]) (i := 7) rfl ta_46 rfl rfl rfl rfl ?_)) | (refine AOps.st 142 rfl rfl rfl (op_load_m (cs' := [_, _, _, _, _, _, _]) (i := 8) rfl ta_46 rfl rfl rfl rfl ?_)) | (refine AOps.st 142 rfl rfl rfl (op_load_m (cs' := [_, _, _, _, _, _, _]) (i := 9) rfl ta_46 rfl rfl rfl rfl ?_)) | (refine AOps.st 142 rfl rfl rfl (op_load_c (cs' := [_, _, _, _, _, _, _]) rfl ta_46 rfl rfl rfl ?_))
          refine AOps.st 9 rfl rfl rfl (op_alloce (cs' := [_, _, _, _, _, _, _]) rfl tz_46 rfl rfl ?_); intro b9
          refine AOps.st0 rfl rfl (op_store (cs' := [_, _, _, _, _, _, _]) (i := 0) rfl ts_46 rfl rfl rfl rfl rfl (Nat.le_of_ble_eq_true rfl) rfl ?_)
          refine AOps.nil ?_
          refine go_code ?_
          refine c_seq ?_
          refine c_seq ?_
          refine c_bool 194 (¬ (xop = yop ∧ xa = ya ∧ xb = yb ∧ xn = yn ∧ xar = yar ∧ xfs.length = yfs.length ∧ xcp.length = ycp.length)) ?_ _ _ rfl ?_
          · skip
            refine AOps.st 143 rfl rfl rfl (op_fieldAddr_m rfl tf_46_0 rfl ?_)
            first | (refine AOps.st 144 rfl rfl rfl (op_load_m1 (i := 0) rfl ta_3 rfl rfl rfl ?_)) | (refine AOps.st 144 rfl rfl rfl (op_load_m1 (i := 1) rfl ta_3 rfl rfl rfl ?_))
            refine AOps.st 145 rfl rfl rfl (op_fieldAddr_m rfl tf_46_0 rfl ?_)
            refine AOps.st 146 rfl rfl rfl (op_load_m1 (i := 0) rfl ta_3 rfl rfl rfl ?_)
            refine AOps.st 147 rfl rfl rfl (op_neq rfl rfl rfl ?_); intro c147 h147
            refine AOps.st 148 rfl rfl rfl (op_move rfl rfl ?_)
            rcases bool_split h147 with ⟨rfl, g147⟩ | ⟨rfl, g147⟩
            · skip
              refine AOps.gt 149 rfl rfl rfl rfl rfl (op_fieldAddr_m rfl tf_46_1 rfl ?_)
              first | (refine AOps.gt 150 rfl rfl rfl rfl rfl (op_load_m1 (i := 0) rfl ta_3 rfl rfl rfl ?_)) | (refine AOps.gt 150 rfl rfl rfl rfl rfl (op_load_m1 (i := 1) rfl ta_3 rfl rfl rfl ?_))
              refine AOps.gt 151 rfl rfl rfl rfl rfl (op_fieldAddr_m rfl tf_46_1 rfl ?_)
              refine AOps.gt 152 rfl rfl rfl rfl rfl (op_load_m1 (i := 0) rfl ta_3 rfl rfl rfl ?_)
              refine AOps.gt 153 rfl rfl rfl rfl rfl (op_neq rfl rfl rfl ?_); intro c153 h153
              refine AOps.st 154 rfl rfl rfl (op_pick rfl rfl rfl ?_)
              refine AOps.st 155 rfl rfl rfl (op_move rfl rfl ?_)
              rcases bool_split h153 with ⟨rfl, g153⟩ | ⟨rfl, g153⟩
              · skip
                refine AOps.gt 156 rfl rfl rfl rfl rfl (op_fieldAddr_m rfl tf_46_2 rfl ?_)
                first | (refine AOps.gt 157 rfl rfl rfl rfl rfl (op_load_m1 (i := 0) rfl ta_3 rfl rfl rfl ?_)) | (refine AOps.gt 157 rfl rfl rfl rfl rfl (op_load_m1 (i := 1) rfl ta_3 rfl rfl rfl ?_))
                refine AOps.gt 158 rfl rfl rfl rfl rfl (op_fieldAddr_m rfl tf_46_2 rfl ?_)
                refine AOps.gt 159 rfl rfl rfl rfl rfl (op_load_m1 (i := 0) rfl ta_3 rfl rfl rfl ?_)
                refine AOps.gt 160 rfl rfl rfl rfl rfl (op_neq rfl rfl rfl ?_); intro c160 h160
                refine AOps.st 161 rfl rfl rfl (op_pick rfl rfl rfl ?_)
                refine AOps.st 162 rfl rfl rfl (op_move rfl rfl ?_)
                rcases bool_split h160 with ⟨rfl, g160⟩ | ⟨rfl, g160⟩
                · skip
                  refine AOps.gt 163 rfl rfl rfl rfl rfl (op_fieldAddr_m rfl tf_46_3 rfl ?_)
                  first | (refine AOps.gt 164 rfl rfl rfl rfl rfl (op_load_m1 (i := 0) rfl ta_2 rfl rfl rfl ?_)) | (refine AOps.gt 164 rfl rfl rfl rfl rfl (op_load_m1 (i := 1) rfl ta_2 rfl rfl rfl ?_))
                  refine AOps.gt 165 rfl rfl rfl rfl rfl (op_fieldAddr_m rfl tf_46_3 rfl ?_)
                  refine AOps.gt 166 rfl rfl rfl rfl rfl (op_load_m1 (i := 0) rfl ta_2 rfl rfl rfl ?_)
                  refine AOps.gt 167 rfl rfl rfl rfl rfl (op_neq rfl rfl rfl ?_); intro c167 h167
                  refine AOps.st 168 rfl rfl rfl (op_pick rfl rfl rfl ?_)
                  refine AOps.st 169 rfl rfl rfl (op_move rfl rfl ?_)
                  rcases bool_split h167 with ⟨rfl, g167⟩ | ⟨rfl, g167⟩
                  · skip
                    refine AOps.gt 170 rfl rfl rfl rfl rfl (op_fieldAddr_m rfl tf_46_4 rfl ?_)
                    first | (refine AOps.gt 171 rfl rfl rfl rfl rfl (op_load_m1 (i := 0) rfl ta_42 rfl rfl rfl ?_)) | (refine AOps.gt 171 rfl rfl rfl rfl rfl (op_load_m1 (i := 1) rfl ta_42 rfl rfl rfl ?_))
                    refine AOps.gt 172 rfl rfl rfl rfl rfl (op_fieldAddr_m rfl tf_46_4 rfl ?_)
                    refine AOps.gt 173 rfl rfl rfl rfl rfl (op_load_m1 (i := 0) rfl ta_42 rfl rfl rfl ?_)
                    refine AOps.gt 174 rfl rfl rfl rfl rfl (op_callb (xs := [.tmp 171, .tmp 173]) rfl rfl (rsameAtoms_c xar yar) (by first | exact Les.refl _ | (repeat' (first | exact Les.refl _ | refine Les.cons ?_ ?_ | exact Le.refl _ | exact Le.own _ _ _ | exact Le.nil _ | refine Le.agg ?_))) ?_); intro c174 h174
                    refine AOps.gt 175 rfl rfl rfl rfl rfl (op_notc rfl rfl ?_); intro c175 h175
                    try replace h175 := nott h175 h174
                    refine AOps.st 176 rfl rfl rfl (op_pick rfl rfl rfl ?_)
                    refine AOps.st 177 rfl rfl rfl (op_move rfl rfl ?_)
                    rcases bool_split h175 with ⟨rfl, g175⟩ | ⟨rfl, g175⟩
                    · skip
                      refine AOps.gt 178 rfl rfl rfl rfl rfl (op_fieldAddr_m rfl tf_46_5 rfl ?_)
                      first | (refine AOps.gt 179 rfl rfl rfl rfl rfl (op_load_m1 (i := 0) rfl ta_43 rfl rfl rfl ?_)) | (refine AOps.gt 179 rfl rfl rfl rfl rfl (op_load_m1 (i := 1) rfl ta_43 rfl rfl rfl ?_))
                      refine AOps.gt 180 rfl rfl rfl rfl rfl (op_len rfl tu_43 rfl (.seq _ _) (fun n180 => ?_))
                      refine AOps.gt 181 rfl rfl rfl rfl rfl (op_fieldAddr_m rfl tf_46_5 rfl ?_)
                      refine AOps.gt 182 rfl rfl rfl rfl rfl (op_load_m1 (i := 0) rfl ta_43 rfl rfl rfl ?_)
                      refine AOps.gt 183 rfl rfl rfl rfl rfl (op_len rfl tu_43 rfl (.seq _ _) (fun n183 => ?_))
                      refine AOps.gt 184 rfl rfl rfl rfl rfl (op_neq rfl rfl rfl ?_); intro c184 h184
                      refine AOps.st 185 rfl rfl rfl (op_pick rfl rfl rfl ?_)
                      refine AOps.st 186 rfl rfl rfl (op_move rfl rfl ?_)
                      rcases bool_split h184 with ⟨rfl, g184⟩ | ⟨rfl, g184⟩
                      · skip
                        refine AOps.gt 187 rfl rfl rfl rfl rfl (op_fieldAddr_m rfl tf_46_6 rfl ?_)
                        first | (refine AOps.gt 188 rfl rfl rfl rfl rfl (op_load_m1 (i := 0) rfl ta_44 rfl rfl rfl ?_)) | (refine AOps.gt 188 rfl rfl rfl rfl rfl (op_load_m1 (i := 1) rfl ta_44 rfl rfl rfl ?_))
                        refine AOps.gt 189 rfl rfl rfl rfl rfl (op_len rfl tu_44 rfl (.seq _ _) (fun n189 => ?_))
                        refine AOps.gt 190 rfl rfl rfl rfl rfl (op_fieldAddr_m rfl tf_46_6 rfl ?_)
                        refine AOps.gt 191 rfl rfl rfl rfl rfl (op_load_m1 (i := 0) rfl ta_44 rfl rfl rfl ?_)
                        refine AOps.gt 192 rfl rfl rfl rfl rfl (op_len rfl tu_44 rfl (.seq _ _) (fun n192 => ?_))
                        refine AOps.gt 193 rfl rfl rfl rfl rfl (op_neq rfl rfl rfl ?_); intro c193 h193
                        refine AOps.st 194 rfl rfl rfl (op_pick rfl rfl rfl ?_)
                        refine AOps.nil ?_
                        refine BoolQ.mk rfl ?_ (by repeat' (first | exact SLe.wo _ _ | exact SLe.refl _ | refine SLe.fresh rfl ?_)) (by first | exact MLe.none _ | exact MLe.refl _ | (repeat' (first | exact MLe.nil | exact MLe.refl _ | refine MLe.cons _ ?_ | refine MLe.drop _ ?_)))
                        first | (simp_all; done) | (simp_all; omega)
                      · skip
                        refine AOps.gf 187 rfl rfl rfl rfl rfl ?_
                        refine AOps.gf 188 rfl rfl rfl rfl rfl ?_
                        refine AOps.gf 189 rfl rfl rfl rfl rfl ?_
                        refine AOps.gf 190 rfl rfl rfl rfl rfl ?_
                        refine AOps.gf 191 rfl rfl rfl rfl rfl ?_
                        refine AOps.gf 192 rfl rfl rfl rfl rfl ?_
                        refine AOps.gf 193 rfl rfl rfl rfl rfl ?_
                        refine AOps.st 194 rfl rfl rfl (op_pick rfl rfl rfl ?_)
                        refine AOps.nil ?_
                        refine BoolQ.mk rfl ?_ (by repeat' (first | exact SLe.wo _ _ | exact SLe.refl _ | refine SLe.fresh rfl ?_)) (by first | exact MLe.none _ | exact MLe.refl _ | (repeat' (first | exact MLe.nil | exact MLe.refl _ | refine MLe.cons _ ?_ | refine MLe.drop _ ?_)))
                        first | (simp_all; done) | (simp_all; omega)
                    · skip
                      refine AOps.gf 178 rfl rfl rfl rfl rfl ?_
                      refine AOps.gf 179 rfl rfl rfl rfl rfl ?_
                      refine AOps.gf 180 rfl rfl rfl rfl rfl ?_
                      refine AOps.gf 181 rfl rfl rfl rfl rfl ?_
                      refine AOps.gf 182 rfl rfl rfl rfl rfl ?_
                      refine AOps.gf 183 rfl rfl rfl rfl rfl ?_
                      refine AOps.gf 184 rfl rfl rfl rfl rfl ?_
                      refine AOps.st 185 rfl rfl rfl (op_pick rfl rfl rfl ?_)
                      refine AOps.st 186 rfl rfl rfl (op_move rfl rfl ?_)
                      refine AOps.gf 187 rfl rfl rfl rfl rfl ?_
                      refine AOps.gf 188 rfl rfl rfl rfl rfl ?_
                      refine AOps.gf 189 rfl rfl rfl rfl rfl ?_
                      refine AOps.gf 190 rfl rfl rfl rfl rfl ?_
                      refine AOps.gf 191 rfl rfl rfl rfl rfl ?_
                      refine AOps.gf 192 rfl rfl rfl rfl rfl ?_
                      refine AOps.gf 193 rfl rfl rfl rfl rfl ?_
                      refine AOps.st 194 rfl rfl rfl (op_pick rfl rfl rfl ?_)
                      refine AOps.nil ?_
                      refine BoolQ.mk rfl ?_ (by repeat' (first | exact SLe.wo _ _ | exact SLe.refl _ | refine SLe.fresh rfl ?_)) (by first | exact MLe.none _ | exact MLe.refl _ | (repeat' (first | exact MLe.nil | exact MLe.refl _ | refine MLe.cons _ ?_ | refine MLe.drop _ ?_)))
                      simp_all; done
                  · skip
                    refine AOps.gf 170 rfl rfl rfl rfl rfl ?_
                    refine AOps.gf 171 rfl rfl rfl rfl rfl ?_
                    refine AOps.gf 172 rfl rfl rfl rfl rfl ?_
                    refine AOps.gf 173 rfl rfl rfl rfl rfl ?_
                    refine AOps.gf 174 rfl rfl rfl rfl rfl ?_
                    refine AOps.gf 175 rfl rfl rfl rfl rfl ?_
                    refine AOps.st 176 rfl rfl rfl (op_pick rfl rfl rfl ?_)
                    refine AOps.st 177 rfl rfl rfl (op_move rfl rfl ?_)
                    refine AOps.gf 178 rfl rfl rfl rfl rfl ?_
                    refine AOps.gf 179 rfl rfl rfl rfl rfl ?_
                    refine AOps.gf 180 rfl rfl rfl rfl rfl ?_
                    refine AOps.gf 181 rfl rfl rfl rfl rfl ?_
                    refine AOps.gf 182 rfl rfl rfl rfl rfl ?_
                    refine AOps.gf 183 rfl rfl rfl rfl rfl ?_
                    refine AOps.gf 184 rfl rfl rfl rfl rfl ?_
                    refine AOps.st 185 rfl rfl rfl (op_pick rfl rfl rfl ?_)
                    refine AOps.st 186 rfl rfl rfl (op_move rfl rfl ?_)
                    refine AOps.gf 187 rfl rfl rfl rfl rfl ?_
                    refine AOps.gf 188 rfl rfl rfl rfl rfl ?_
                    refine AOps.gf 189 rfl rfl rfl rfl rfl ?_
                    refine AOps.gf 190 rfl rfl rfl rfl rfl ?_
                    refine AOps.gf 191 rfl rfl rfl rfl rfl ?_
                    refine AOps.gf 192 rfl rfl rfl rfl rfl ?_
                    refine AOps.gf 193 rfl rfl rfl rfl rfl ?_
                    refine AOps.st 194 rfl rfl rfl (op_pick rfl rfl rfl ?_)
                    refine AOps.nil ?_
                    refine BoolQ.mk rfl ?_ (by repeat' (first | exact SLe.wo _ _ | exact SLe.refl _ | refine SLe.fresh rfl ?_)) (by first | exact MLe.none _ | exact MLe.refl _ | (repeat' (first | exact MLe.nil | exact MLe.refl _ | refine MLe.cons _ ?_ | refine MLe.drop _ ?_)))
                    simp_all; done
                · skip
                  refine AOps.gf 163 rfl rfl rfl rfl rfl ?_
                  refine AOps.gf 164 rfl rfl rfl rfl rfl ?_
                  refine AOps.gf 165 rfl rfl rfl rfl rfl ?_
                  refine AOps.gf 166 rfl rfl rfl rfl rfl ?_
                  refine AOps.gf 167 rfl rfl rfl rfl rfl ?_
                  refine AOps.st 168 rfl rfl rfl (op_pick rfl rfl rfl ?_)
                  refine AOps.st 169 rfl rfl rfl (op_move rfl rfl ?_)
                  refine AOps.gf 170 rfl rfl rfl rfl rfl ?_
                  refine AOps.gf 171 rfl rfl rfl rfl rfl ?_
                  refine AOps.gf 172 rfl rfl rfl rfl rfl ?_
                  refine AOps.gf 173 rfl rfl rfl rfl rfl ?_
                  refine AOps.gf 174 rfl rfl rfl rfl rfl ?_
                  refine AOps.gf 175 rfl rfl rfl rfl rfl ?_
                  refine AOps.st 176 rfl rfl rfl (op_pick rfl rfl rfl ?_)
                  refine AOps.st 177 rfl rfl rfl (op_move rfl rfl ?_)
                  refine AOps.gf 178 rfl rfl rfl rfl rfl ?_
                  refine AOps.gf 179 rfl rfl rfl rfl rfl ?_
                  refine AOps.gf 180 rfl rfl rfl rfl rfl ?_
                  refine AOps.gf 181 rfl rfl rfl rfl rfl ?_
                  refine AOps.gf 182 rfl rfl rfl rfl rfl ?_
                  refine AOps.gf 183 rfl rfl rfl rfl rfl ?_
                  refine AOps.gf 184 rfl rfl rfl rfl rfl ?_
                  refine AOps.st 185 rfl rfl rfl (op_pick rfl rfl rfl ?_)
                  refine AOps.st 186 rfl rfl rfl (op_move rfl rfl ?_)
                  refine AOps.gf 187 rfl rfl rfl rfl rfl ?_
                  refine AOps.gf 188 rfl rfl rfl rfl rfl ?_
                  refine AOps.gf 189 rfl rfl rfl rfl rfl ?_
                  refine AOps.gf 190 rfl rfl rfl rfl rfl ?_
                  refine AOps.gf 191 rfl rfl rfl rfl rfl ?_
                  refine AOps.gf 192 rfl rfl rfl rfl rfl ?_
                  refine AOps.gf 193 rfl rfl rfl rfl rfl ?_
                  refine AOps.st 194 rfl rfl rfl (op_pick rfl rfl rfl ?_)
                  refine AOps.nil ?_
                  refine BoolQ.mk rfl ?_ (by repeat' (first | exact SLe.wo _ _ | exact SLe.refl _ | refine SLe.fresh rfl ?_)) (by first | exact MLe.none _ | exact MLe.refl _ | (repeat' (first | exact MLe.nil | exact MLe.refl _ | refine MLe.cons _ ?_ | refine MLe.drop _ ?_)))
                  simp_all; done
              · skip
                refine AOps.gf 156 rfl rfl rfl rfl rfl ?_
                refine AOps.gf 157 rfl rfl rfl rfl rfl ?_
                refine AOps.gf 158 rfl rfl rfl rfl rfl ?_
                refine AOps.gf 159 rfl rfl rfl rfl rfl ?_
                refine AOps.gf 160 rfl rfl rfl rfl rfl ?_
                refine AOps.st 161 rfl rfl rfl (op_pick rfl rfl rfl ?_)
                refine AOps.st 162 rfl rfl rfl (op_move rfl rfl ?_)
                refine AOps.gf 163 rfl rfl rfl rfl rfl ?_
                refine AOps.gf 164 rfl rfl rfl rfl rfl ?_
                refine AOps.gf 165 rfl rfl rfl rfl rfl ?_
                refine AOps.gf 166 rfl rfl rfl rfl rfl ?_
                refine AOps.gf 167 rfl rfl rfl rfl rfl ?_
                refine AOps.st 168 rfl rfl rfl (op_pick rfl rfl rfl ?_)
                refine AOps.st 169 rfl rfl rfl (op_move rfl rfl ?_)
                refine AOps.gf 170 rfl rfl rfl rfl rfl ?_
                refine AOps.gf 171 rfl rfl rfl rfl rfl ?_
                refine AOps.gf 172 rfl rfl rfl rfl rfl ?_
                refine AOps.gf 173 rfl rfl rfl rfl rfl ?_
                refine AOps.gf 174 rfl rfl rfl rfl rfl ?_
                refine AOps.gf 175 rfl rfl rfl rfl rfl ?_
                refine AOps.st 176 rfl rfl rfl (op_pick rfl rfl rfl ?_)
                refine AOps.st 177 rfl rfl rfl (op_move rfl rfl ?_)
                refine AOps.gf 178 rfl rfl rfl rfl rfl ?_
                refine AOps.gf 179 rfl rfl rfl rfl rfl ?_
                refine AOps.gf 180 rfl rfl rfl rfl rfl ?_
                refine AOps.gf 181 rfl rfl rfl rfl rfl ?_
                refine AOps.gf 182 rfl rfl rfl rfl rfl ?_
                refine AOps.gf 183 rfl rfl rfl rfl rfl ?_
                refine AOps.gf 184 rfl rfl rfl rfl rfl ?_
                refine AOps.st 185 rfl rfl rfl (op_pick rfl rfl rfl ?_)
                refine AOps.st 186 rfl rfl rfl (op_move rfl rfl ?_)
                refine AOps.gf 187 rfl rfl rfl rfl rfl ?_
                refine AOps.gf 188 rfl rfl rfl rfl rfl ?_
                refine AOps.gf 189 rfl rfl rfl rfl rfl ?_
                refine AOps.gf 190 rfl rfl rfl rfl rfl ?_
                refine AOps.gf 191 rfl rfl rfl rfl rfl ?_
                refine AOps.gf 192 rfl rfl rfl rfl rfl ?_
                refine AOps.gf 193 rfl rfl rfl rfl rfl ?_
                refine AOps.st 194 rfl rfl rfl (op_pick rfl rfl rfl ?_)
                refine AOps.nil ?_
                refine BoolQ.mk rfl ?_ (by repeat' (first | exact SLe.wo _ _ | exact SLe.refl _ | refine SLe.fresh rfl ?_)) (by first | exact MLe.none _ | exact MLe.refl _ | (repeat' (first | exact MLe.nil | exact MLe.refl _ | refine MLe.cons _ ?_ | refine MLe.drop _ ?_)))
                simp_all; done
            · skip
              refine AOps.gf 149 rfl rfl rfl rfl rfl ?_
              refine AOps.gf 150 rfl rfl rfl rfl rfl ?_
              refine AOps.gf 151 rfl rfl rfl rfl rfl ?_
              refine AOps.gf 152 rfl rfl rfl rfl rfl ?_
              refine AOps.gf 153 rfl rfl rfl rfl rfl ?_
              refine AOps.st 154 rfl rfl rfl (op_pick rfl rfl rfl ?_)
              refine AOps.st 155 rfl rfl rfl (op_move rfl rfl ?_)
              refine AOps.gf 156 rfl rfl rfl rfl rfl ?_
              refine AOps.gf 157 rfl rfl rfl rfl rfl ?_
              refine AOps.gf 158 rfl rfl rfl rfl rfl ?_
              refine AOps.gf 159 rfl rfl rfl rfl rfl ?_
              refine AOps.gf 160 rfl rfl rfl rfl rfl ?_
              refine AOps.st 161 rfl rfl rfl (op_pick rfl rfl rfl ?_)
              refine AOps.st 162 rfl rfl rfl (op_move rfl rfl ?_)
              refine AOps.gf 163 rfl rfl rfl rfl rfl ?_
              refine AOps.gf 164 rfl rfl rfl rfl rfl ?_
              refine AOps.gf 165 rfl rfl rfl rfl rfl ?_
              refine AOps.gf 166 rfl rfl rfl rfl rfl ?_
              refine AOps.gf 167 rfl rfl rfl rfl rfl ?_
              refine AOps.st 168 rfl rfl rfl (op_pick rfl rfl rfl ?_)
              refine AOps.st 169 rfl rfl rfl (op_move rfl rfl ?_)
              refine AOps.gf 170 rfl rfl rfl rfl rfl ?_
              refine AOps.gf 171 rfl rfl rfl rfl rfl ?_
              refine AOps.gf 172 rfl rfl rfl rfl rfl ?_
              refine AOps.gf 173 rfl rfl rfl rfl rfl ?_
              refine AOps.gf 174 rfl rfl rfl rfl rfl ?_
              refine AOps.gf 175 rfl rfl rfl rfl rfl ?_
              refine AOps.st 176 rfl rfl rfl (op_pick rfl rfl rfl ?_)
              refine AOps.st 177 rfl rfl rfl (op_move rfl rfl ?_)
              refine AOps.gf 178 rfl rfl rfl rfl rfl ?_
              refine AOps.gf 179 rfl rfl rfl rfl rfl ?_
              refine AOps.gf 180 rfl rfl rfl rfl rfl ?_
              refine AOps.gf 181 rfl rfl rfl rfl rfl ?_
              refine AOps.gf 182 rfl rfl rfl rfl rfl ?_
              refine AOps.gf 183 rfl rfl rfl rfl rfl ?_
              refine AOps.gf 184 rfl rfl rfl rfl rfl ?_
              refine AOps.st 185 rfl rfl rfl (op_pick rfl rfl rfl ?_)
              refine AOps.st 186 rfl rfl rfl (op_move rfl rfl ?_)
              refine AOps.gf 187 rfl rfl rfl rfl rfl ?_
              refine AOps.gf 188 rfl rfl rfl rfl rfl ?_
              refine AOps.gf 189 rfl rfl rfl rfl rfl ?_
              refine AOps.gf 190 rfl rfl rfl rfl rfl ?_
              refine AOps.gf 191 rfl rfl rfl rfl rfl ?_
              refine AOps.gf 192 rfl rfl rfl rfl rfl ?_
              refine AOps.gf 193 rfl rfl rfl rfl rfl ?_
              refine AOps.st 194 rfl rfl rfl (op_pick rfl rfl rfl ?_)
              refine AOps.nil ?_
              refine BoolQ.mk rfl ?_ (by repeat' (first | exact SLe.wo _ _ | exact SLe.refl _ | refine SLe.fresh rfl ?_)) (by first | exact MLe.none _ | exact MLe.refl _ | (repeat' (first | exact MLe.nil | exact MLe.refl _ | refine MLe.cons _ ?_ | refine MLe.drop _ ?_)))
              simp_all; done
          intro c194 h194
          refine go_code ?_
          rcases bool_split h194 with ⟨rfl, g194⟩ | ⟨rfl, g194⟩
          · refine c_cond_f rfl ?_
            refine c_skip ?_
            refine go_code ?_
            refine c_seq ?_
            refine c_seq ?_
            obtain ⟨d1, d2, d3, d4, d5, d6, d7⟩ := Classical.not_not.1 g194
            refine c_region ?_
            refine AOps.st 10 rfl rfl rfl (op_assign rfl rfl ?_)
            refine AOps.nil ?_
            refine go_code ?_
            refine c_block ?_
            apply c_loopkm [0, 1, 4, 5, 6, 10, 12, 13, 14, 15, 16, 17, 18, 19, 20, 21, 22, 23, 24, 25, 26, 27, 28, 29, 30, 31, 32, 33, 34, 35, 36, 37, 38, 39, 40, 41, 42, 43, 44, 45, 46, 47, 48, 49, 50, 51, 52, 53, 54, 55, 56, 57, 58, 59, 60, 61, 62, 63, 64, 65, 66, 67, 68, 69, 70, 71, 72, 73, 74, 75, 76, 77, 78, 79, 80, 81, 82, 83, 84, 85, 86, 87, 88, 89, 90, 91, 92, 93, 94, 95, 96, 97, 98, 99, 100, 101, 102, 103, 104, 105, 106, 107, 108, 109, 110, 111, 112, 113, 114, 115, 116, 117, 118, 119, 120, 121, 122, 123, 124, 125, 195, 196, 197, 198, 199, 200, 201, 202, 203, 204, 205, 206, 207, 208, 209, 210, 211, 212] (σ := Nat) (fun zz => match zz with | j => [(10, .val (.int .i64 j))]) (fun zz => match zz with | j => j ≤ xfs.length ∧ Upto xfs yfs j) (fun zz => match zz with | j => xfs.length - j) (0)
            · repeat' (first | exact Drops.nil | apply Drops.keep rfl | apply Drops.skip rfl)
            · exact ⟨by omega, Upto.zero _ _⟩
            · exact (by repeat' (first | exact SLe.nil _ | refine SLe.cons rfl ?_ ?_ | exact Le.refl _ | exact Le.own _ _ _ | exact Le.nil _))
            rintro j hI
            try dsimp only [List.cons_append, List.nil_append] at hI ⊢
            obtain ⟨hj, hv⟩ := hI
            refine c_seq ?_
            refine c_seq ?_
            refine c_region ?_
            refine AOps.st 195 rfl rfl rfl (op_move rfl rfl ?_)
            refine AOps.st 196 rfl rfl rfl (op_fieldAddr_m rfl tf_46_5 rfl ?_)
            first | (refine AOps.st 197 rfl rfl rfl (op_load_m1 (i := 0) rfl ta_43 rfl rfl rfl ?_)) | (refine AOps.st 197 rfl rfl rfl (op_load_m1 (i := 1) rfl ta_43 rfl rfl rfl ?_))
            refine AOps.st 198 rfl rfl rfl (op_len rfl tu_43 rfl (.seq _ _) (fun n198 => ?_))
            refine AOps.st 199 rfl rfl rfl (op_lss rfl rfl rfl ?_); intro c199 h199
            refine AOps.nil ?_
            refine go_code ?_
            rcases bool_split h199 with ⟨rfl, g199⟩ | ⟨rfl, g199⟩
            · refine c_cond_f rfl ?_
              refine c_exit ?_
              refine x_code ?_
              refine x_lp ?_
              refine x_here ?_
              refine go_code ?_
              refine c_seq ?_
              have efs := hv.eq (by omega) (by omega)
              refine c_region ?_
              refine AOps.st 11 rfl rfl rfl (op_assign rfl rfl ?_)
              refine AOps.nil ?_
              refine go_code ?_
              refine c_block ?_
              apply c_loopkm [0, 1, 4, 5, 6, 11, 12, 13, 14, 15, 16, 17, 18, 19, 20, 21, 22, 23, 24, 25, 26, 27, 28, 29, 30, 31, 32, 33, 34, 35, 36, 37, 38, 39, 40, 41, 42, 43, 44, 45, 46, 47, 48, 49, 50, 51, 52, 53, 54, 55, 56, 57, 58, 59, 60, 61, 62, 63, 64, 65, 66, 67, 68, 69, 70, 71, 72, 73, 74, 75, 76, 77, 78, 79, 80, 81, 82, 83, 84, 85, 86, 87, 88, 89, 90, 91, 92, 93, 94, 95, 96, 97, 98, 99, 100, 101, 102, 103, 104, 105, 106, 107, 108, 109, 110, 111, 112, 113, 114, 115, 116, 117, 118, 119, 120, 121, 122, 123, 124, 125, 213, 214, 215, 216, 217, 218, 219, 220, 221, 222, 223, 224, 225, 226, 227, 228, 229, 230, 231] (σ := Nat) (fun zz => match zz with | j => [(11, .val (.int .i64 j))]) (fun zz => match zz with | j => j ≤ xcp.length ∧ Upto xcp ycp j) (fun zz => match zz with | j => xcp.length - j) (0)
              · repeat' (first | exact Drops.nil | apply Drops.keep rfl | apply Drops.skip rfl)
              · exact ⟨by omega, Upto.zero _ _⟩
              · exact (by repeat' (first | exact SLe.nil _ | refine SLe.cons rfl ?_ ?_ | exact Le.refl _ | exact Le.own _ _ _ | exact Le.nil _))
              rintro j hI
              try dsimp only [List.cons_append, List.nil_append] at hI ⊢
              obtain ⟨hj, hv⟩ := hI
              refine c_seq ?_
              refine c_seq ?_
              refine c_region ?_
              refine AOps.st 213 rfl rfl rfl (op_move rfl rfl ?_)
              refine AOps.st 214 rfl rfl rfl (op_fieldAddr_m rfl tf_46_6 rfl ?_)
              first | (refine AOps.st 215 rfl rfl rfl (op_load_m1 (i := 0) rfl ta_44 rfl rfl rfl ?_)) | (refine AOps.st 215 rfl rfl rfl (op_load_m1 (i := 1) rfl ta_44 rfl rfl rfl ?_))
              refine AOps.st 216 rfl rfl rfl (op_len rfl tu_44 rfl (.seq _ _) (fun n216 => ?_))
              refine AOps.st 217 rfl rfl rfl (op_lss rfl rfl rfl ?_); intro c217 h217
              refine AOps.nil ?_
              refine go_code ?_
              rcases bool_split h217 with ⟨rfl, g217⟩ | ⟨rfl, g217⟩
              · refine c_cond_f rfl ?_
                refine c_exit ?_
                refine x_code ?_
                refine x_lp ?_
                refine x_here ?_
                refine go_blk ?_
                refine go_code ?_
                refine c_region ?_
                refine AOps.st 131 rfl rfl rfl (op_move rfl rfl ?_)
                refine AOps.st 132 rfl rfl rfl (op_add rfl rfl rfl (IntWalk.i64_in _ (by omega)) ?_)
                refine AOps.st 7 rfl rfl rfl (op_assign rfl rfl ?_)
                refine AOps.nil ?_
                refine go_lp ?_
                exact ⟨i + 1, ⟨by omega, hu.succ hxx hxy (by have ecp := hv.eq (by omega) (by omega); subst d1 d2 d3 d4 d5 efs ecp; rfl)⟩, by simp; omega, (by repeat' (first | exact SLe.nil _ | refine SLe.cons rfl ?_ ?_ | exact Le.refl _ | exact Le.own _ _ _ | exact Le.nil _)), (by first | exact MLe.none _ | exact MLe.refl _ | (repeat' (first | exact MLe.nil | exact MLe.refl _ | refine MLe.cons _ ?_ | refine MLe.drop _ ?_)))⟩
              · refine c_cond_t rfl ?_
                refine c_skip ?_
                refine go_code ?_
                refine c_seq ?_
                refine c_block ?_
                refine c_seq ?_
                obtain ⟨l1, hq1⟩ := get_some (l := xcp) (i := j) (by omega)
                obtain ⟨l2, hq2⟩ := get_some (l := ycp) (i := j) (by omega)
                have hcq1 := Ato.cellsss_get hq1
                have hcq2 := Ato.cellsss_get hq2
                refine c_drawn tmix rfl ?_
                refine DOps.st 220 rfl rfl (op_fieldAddr_m rfl tf_46_6 rfl ⟨rfl, rfl⟩) ?_
                first | (refine DOps.st 221 rfl rfl (op_load_m1 (i := 0) rfl ta_44 rfl rfl rfl ⟨rfl, rfl⟩) ?_) | (refine DOps.st 221 rfl rfl (op_load_m1 (i := 1) rfl ta_44 rfl rfl rfl ⟨rfl, rfl⟩) ?_)
                refine DOps.st 222 rfl rfl (op_move rfl rfl ⟨rfl, rfl⟩) ?_
                refine DOps.st 223 rfl rfl (op_index rfl te_44 rfl (.seq _ _) rfl rfl (by assumption) ⟨rfl, rfl⟩) ?_
                first | (refine DOps.st 224 rfl rfl (op_load_m1 (i := 0) rfl ta_42 rfl rfl rfl ⟨rfl, rfl⟩) ?_) | (refine DOps.st 224 rfl rfl (op_load_m1 (i := 1) rfl ta_42 rfl rfl rfl ⟨rfl, rfl⟩) ?_) | (refine DOps.st 224 rfl rfl (op_load_m1 (i := 2) rfl ta_42 rfl rfl rfl ⟨rfl, rfl⟩) ?_) | (refine DOps.st 224 rfl rfl (op_load_m1 (i := 3) rfl ta_42 rfl rfl rfl ⟨rfl, rfl⟩) ?_) | (refine DOps.st 224 rfl rfl (op_load_m1 (i := 4) rfl ta_42 rfl rfl rfl ⟨rfl, rfl⟩) ?_) | (refine DOps.st 224 rfl rfl (op_load_m1 (i := 5) rfl ta_42 rfl rfl rfl ⟨rfl, rfl⟩) ?_) | (refine DOps.st 224 rfl rfl (op_load_m1 (i := 6) rfl ta_42 rfl rfl rfl ⟨rfl, rfl⟩) ?_) | (refine DOps.st 224 rfl rfl (op_load_m1 (i := 7) rfl ta_42 rfl rfl rfl ⟨rfl, rfl⟩) ?_) | (refine DOps.st 224 rfl rfl (op_load_m1 (i := 8) rfl ta_42 rfl rfl rfl ⟨rfl, rfl⟩) ?_) | (refine DOps.st 224 rfl rfl (op_load_m1 (i := 9) rfl ta_42 rfl rfl rfl ⟨rfl, rfl⟩) ?_) | (refine DOps.st 224 rfl rfl (op_load_c1 rfl ta_42 rfl rfl ⟨rfl, rfl⟩) ?_)
                refine DOps.st 225 rfl rfl (op_fieldAddr_m rfl tf_46_6 rfl ⟨rfl, rfl⟩) ?_
                refine DOps.st 226 rfl rfl (op_load_m1 (i := 0) rfl ta_44 rfl rfl rfl ⟨rfl, rfl⟩) ?_
                refine DOps.st 227 rfl rfl (op_move rfl rfl ⟨rfl, rfl⟩) ?_
                refine DOps.st 228 rfl rfl (op_index rfl te_44 rfl (.seq _ _) rfl rfl (by assumption) ⟨rfl, rfl⟩) ?_
                first | (refine DOps.st 229 rfl rfl (op_load_m1 (i := 0) rfl ta_42 rfl rfl rfl ⟨rfl, rfl⟩) ?_) | (refine DOps.st 229 rfl rfl (op_load_m1 (i := 1) rfl ta_42 rfl rfl rfl ⟨rfl, rfl⟩) ?_) | (refine DOps.st 229 rfl rfl (op_load_m1 (i := 2) rfl ta_42 rfl rfl rfl ⟨rfl, rfl⟩) ?_) | (refine DOps.st 229 rfl rfl (op_load_m1 (i := 3) rfl ta_42 rfl rfl rfl ⟨rfl, rfl⟩) ?_) | (refine DOps.st 229 rfl rfl (op_load_m1 (i := 4) rfl ta_42 rfl rfl rfl ⟨rfl, rfl⟩) ?_) | (refine DOps.st 229 rfl rfl (op_load_m1 (i := 5) rfl ta_42 rfl rfl rfl ⟨rfl, rfl⟩) ?_) | (refine DOps.st 229 rfl rfl (op_load_m1 (i := 6) rfl ta_42 rfl rfl rfl ⟨rfl, rfl⟩) ?_) | (refine DOps.st 229 rfl rfl (op_load_m1 (i := 7) rfl ta_42 rfl rfl rfl ⟨rfl, rfl⟩) ?_) | (refine DOps.st 229 rfl rfl (op_load_m1 (i := 8) rfl ta_42 rfl rfl rfl ⟨rfl, rfl⟩) ?_) | (refine DOps.st 229 rfl rfl (op_load_m1 (i := 9) rfl ta_42 rfl rfl rfl ⟨rfl, rfl⟩) ?_) | (refine DOps.st 229 rfl rfl (op_load_c1 rfl ta_42 rfl rfl ⟨rfl, rfl⟩) ?_)
                refine DOps.cm 230 rfl rfl (fun _ q => op_callb (xs := [.tmp 224, .tmp 229]) rfl rfl (rsameAtoms_c l1 l2) (by first | exact Les.refl _ | (repeat' (first | exact Les.refl _ | refine Les.cons ?_ ?_ | exact Le.refl _ | exact Le.own _ _ _ | exact Le.nil _ | refine Le.agg ?_))) q) ?_; intro c230 h230
                refine DOps.cm 231 rfl rfl (fun _ q => op_notc rfl rfl q) ?_; intro c231 h231
                try replace h231 := nott h231 h230
                show AGo _ _ _ _ _ _ _
                refine go_code ?_
                rcases bool_split h231 with ⟨rfl, g231⟩ | ⟨rfl, g231⟩
                · refine c_cond_f rfl ?_
                  refine c_skip ?_
                  refine go_blk ?_
                  refine go_code ?_
                  refine c_region ?_
                  refine AOps.st 218 rfl rfl rfl (op_move rfl rfl ?_)
                  refine AOps.st 219 rfl rfl rfl (op_add rfl rfl rfl (IntWalk.i64_in _ (by omega)) ?_)
                  refine AOps.st 11 rfl rfl rfl (op_assign rfl rfl ?_)
                  refine AOps.nil ?_
                  refine go_lp ?_
                  exact ⟨j + 1, ⟨by omega, hv.succ hq1 hq2 (Classical.not_not.1 g231)⟩, by simp; omega, (by repeat' (first | exact SLe.nil _ | refine SLe.cons rfl ?_ ?_ | exact Le.refl _ | exact Le.own _ _ _ | exact Le.nil _)), (by first | exact MLe.none _ | exact MLe.refl _ | (repeat' (first | exact MLe.nil | exact MLe.refl _ | refine MLe.cons _ ?_ | refine MLe.drop _ ?_)))⟩
                · refine c_cond_t rfl ?_
                  refine c_seq ?_
                  refine c_region ?_
                  refine AOps.st 4 rfl rfl rfl (op_assign rfl rfl ?_)
                  refine AOps.nil ?_
                  refine go_code ?_
                  refine c_ret ?_
                  exact out_tmp rfl rfl (Le.refl _) (by first | exact MLe.none _ | exact MLe.refl _ | (repeat' (first | exact MLe.nil | exact MLe.refl _ | refine MLe.cons _ ?_ | refine MLe.drop _ ?_))) ⟨⟨_, iff_f (fun e => hne (fun q => g231 (by cases q; rw [hq1] at hq2; cases hq2; rfl)) e.2.2.2.2.2), rfl⟩, rfl⟩
            · refine c_cond_t rfl ?_
              refine c_skip ?_
              refine go_code ?_
              refine c_seq ?_
              refine c_block ?_
              refine c_seq ?_
              obtain ⟨p, hxp⟩ := get_some (l := xfs) (i := j) (by first | omega | (simp at *; omega))
              have hcp := nums_get hxp
              have hmp := List.mem_of_getElem? hxp
              obtain ⟨r, hxr⟩ := get_some (l := yfs) (i := j) (by first | omega | (simp at *; omega))
              have hcr := nums_get hxr
              have hmr := List.mem_of_getElem? hxr
              refine c_drawn tmix rfl ?_
              refine DOps.st 202 rfl rfl (op_fieldAddr_m rfl tf_46_5 rfl ⟨rfl, rfl⟩) ?_
              first | (refine DOps.st 203 rfl rfl (op_load_m1 (i := 0) rfl ta_43 rfl rfl rfl ⟨rfl, rfl⟩) ?_) | (refine DOps.st 203 rfl rfl (op_load_m1 (i := 1) rfl ta_43 rfl rfl rfl ⟨rfl, rfl⟩) ?_)
              refine DOps.st 204 rfl rfl (op_move rfl rfl ⟨rfl, rfl⟩) ?_
              refine DOps.st 205 rfl rfl (op_index rfl te_43 rfl (.seq _ _) rfl rfl (by assumption) ⟨rfl, rfl⟩) ?_
              first | (refine DOps.st 206 rfl rfl (op_load_m1 (i := 0) rfl ta_3 rfl rfl rfl ⟨rfl, rfl⟩) ?_) | (refine DOps.st 206 rfl rfl (op_load_m1 (i := 1) rfl ta_3 rfl rfl rfl ⟨rfl, rfl⟩) ?_) | (refine DOps.st 206 rfl rfl (op_load_m1 (i := 2) rfl ta_3 rfl rfl rfl ⟨rfl, rfl⟩) ?_) | (refine DOps.st 206 rfl rfl (op_load_m1 (i := 3) rfl ta_3 rfl rfl rfl ⟨rfl, rfl⟩) ?_) | (refine DOps.st 206 rfl rfl (op_load_m1 (i := 4) rfl ta_3 rfl rfl rfl ⟨rfl, rfl⟩) ?_) | (refine DOps.st 206 rfl rfl (op_load_m1 (i := 5) rfl ta_3 rfl rfl rfl ⟨rfl, rfl⟩) ?_) | (refine DOps.st 206 rfl rfl (op_load_m1 (i := 6) rfl ta_3 rfl rfl rfl ⟨rfl, rfl⟩) ?_) | (refine DOps.st 206 rfl rfl (op_load_m1 (i := 7) rfl ta_3 rfl rfl rfl ⟨rfl, rfl⟩) ?_) | (refine DOps.st 206 rfl rfl (op_load_m1 (i := 8) rfl ta_3 rfl rfl rfl ⟨rfl, rfl⟩) ?_) | (refine DOps.st 206 rfl rfl (op_load_m1 (i := 9) rfl ta_3 rfl rfl rfl ⟨rfl, rfl⟩) ?_) | (refine DOps.st 206 rfl rfl (op_load_c1 rfl ta_3 rfl rfl ⟨rfl, rfl⟩) ?_)
              refine DOps.st 207 rfl rfl (op_fieldAddr_m rfl tf_46_5 rfl ⟨rfl, rfl⟩) ?_
              refine DOps.st 208 rfl rfl (op_load_m1 (i := 0) rfl ta_43 rfl rfl rfl ⟨rfl, rfl⟩) ?_
              refine DOps.st 209 rfl rfl (op_move rfl rfl ⟨rfl, rfl⟩) ?_
              refine DOps.st 210 rfl rfl (op_index rfl te_43 rfl (.seq _ _) rfl rfl (by assumption) ⟨rfl, rfl⟩) ?_
              first | (refine DOps.st 211 rfl rfl (op_load_m1 (i := 0) rfl ta_3 rfl rfl rfl ⟨rfl, rfl⟩) ?_) | (refine DOps.st 211 rfl rfl (op_load_m1 (i := 1) rfl ta_3 rfl rfl rfl ⟨rfl, rfl⟩) ?_) | (refine DOps.st 211 rfl rfl (op_load_m1 (i := 2) rfl ta_3 rfl rfl rfl ⟨rfl, rfl⟩) ?_) | (refine DOps.st 211 rfl rfl (op_load_m1 (i := 3) rfl ta_3 rfl rfl rfl ⟨rfl, rfl⟩) ?_) | (refine DOps.st 211 rfl rfl (op_load_m1 (i := 4) rfl ta_3 rfl rfl rfl ⟨rfl, rfl⟩) ?_) | (refine DOps.st 211 rfl rfl (op_load_m1 (i := 5) rfl ta_3 rfl rfl rfl ⟨rfl, rfl⟩) ?_) | (refine DOps.st 211 rfl rfl (op_load_m1 (i := 6) rfl ta_3 rfl rfl rfl ⟨rfl, rfl⟩) ?_) | (refine DOps.st 211 rfl rfl (op_load_m1 (i := 7) rfl ta_3 rfl rfl rfl ⟨rfl, rfl⟩) ?_) | (refine DOps.st 211 rfl rfl (op_load_m1 (i := 8) rfl ta_3 rfl rfl rfl ⟨rfl, rfl⟩) ?_) | (refine DOps.st 211 rfl rfl (op_load_m1 (i := 9) rfl ta_3 rfl rfl rfl ⟨rfl, rfl⟩) ?_) | (refine DOps.st 211 rfl rfl (op_load_c1 rfl ta_3 rfl rfl ⟨rfl, rfl⟩) ?_)
              refine DOps.cm 212 rfl rfl (fun _ q => op_neq rfl rfl rfl q) ?_; intro c212 h212
              show AGo _ _ _ _ _ _ _
              refine go_code ?_
              rcases bool_split h212 with ⟨rfl, g212⟩ | ⟨rfl, g212⟩
              · refine c_cond_f rfl ?_
                refine c_skip ?_
                refine go_blk ?_
                refine go_code ?_
                refine c_region ?_
                refine AOps.st 200 rfl rfl rfl (op_move rfl rfl ?_)
                refine AOps.st 201 rfl rfl rfl (op_add rfl rfl rfl (IntWalk.i64_in _ (by omega)) ?_)
                refine AOps.st 10 rfl rfl rfl (op_assign rfl rfl ?_)
                refine AOps.nil ?_
                refine go_lp ?_
                exact ⟨j + 1, ⟨by omega, hv.succ hxp hxr (Classical.not_not.1 g212)⟩, by simp; omega, (by repeat' (first | exact SLe.nil _ | refine SLe.cons rfl ?_ ?_ | exact Le.refl _ | exact Le.own _ _ _ | exact Le.nil _)), (by first | exact MLe.none _ | exact MLe.refl _ | (repeat' (first | exact MLe.nil | exact MLe.refl _ | refine MLe.cons _ ?_ | refine MLe.drop _ ?_)))⟩
              · refine c_cond_t rfl ?_
                refine c_seq ?_
                refine c_region ?_
                refine AOps.st 4 rfl rfl rfl (op_assign rfl rfl ?_)
                refine AOps.nil ?_
                refine go_code ?_
                refine c_ret ?_
                exact out_tmp rfl rfl (Le.refl _) (by first | exact MLe.none _ | exact MLe.refl _ | (repeat' (first | exact MLe.nil | exact MLe.refl _ | refine MLe.cons _ ?_ | refine MLe.drop _ ?_))) ⟨⟨_, iff_f (fun e => hne (fun q => g212 (by cases q; rw [hxp] at hxr; cases hxr; rfl)) e.2.2.2.2.2), rfl⟩, rfl⟩
          · refine c_cond_t rfl ?_
            refine c_seq ?_
            refine c_region ?_
            refine AOps.st 4 rfl rfl rfl (op_assign rfl rfl ?_)
            refine AOps.nil ?_
            refine go_code ?_
            refine c_ret ?_
            exact out_tmp rfl rfl (Le.refl _) (by first | exact MLe.none _ | exact MLe.refl _ | (repeat' (first | exact MLe.nil | exact MLe.refl _ | refine MLe.cons _ ?_ | refine MLe.drop _ ?_))) ⟨⟨_, iff_f (fun e => hne (fun q => by cases q; exact g194 ⟨rfl, rfl, rfl, rfl, rfl, rfl, rfl⟩) e.2.2.2.2.2), rfl⟩, rfl⟩
      · refine c_cond_t rfl ?_
        refine c_skip ?_
        refine go_code ?_
        refine c_seq ?_
        refine c_block ?_
        refine c_seq ?_
        obtain ⟨⟨xlen, xsl, xcp⟩, hxx⟩ := get_some (l := fu1) (i := i) (by first | omega | (simp at *; omega))
        have hcx := Cf.cellss_get hxx
        have hmx := List.mem_of_getElem? hxx
        obtain ⟨⟨ylen, ysl, ycp⟩, hxy⟩ := get_some (l := fu2) (i := i) (by first | omega | (simp at *; omega))
        have hcy := Cf.cellss_get hxy
        have hmy := List.mem_of_getElem? hxy
        refine c_boold 125 (¬ (xlen = ylen ∧ xsl = ysl ∧ xcp = ycp)) tmix rfl ?_ _ _ rfl ?_
        · skip
          refine DOps.st 83 rfl rfl (op_fieldAddr_c rfl tf_26_1 rfl rfl ⟨rfl, rfl⟩) ?_
          refine DOps.st 84 rfl rfl (op_load_c1 rfl ta_23 rfl rfl ⟨rfl, rfl⟩) ?_
          refine DOps.st 85 rfl rfl (op_move rfl rfl ⟨rfl, rfl⟩) ?_
          refine DOps.st 86 rfl rfl (op_index rfl te_23 rfl (.seq _ _) rfl rfl (by assumption) ⟨rfl, rfl⟩) ?_
          first | (refine DOps.st 87 rfl rfl (op_fieldAddr_m rfl tf_39_0 rfl ⟨rfl, rfl⟩) ?_) | (refine DOps.st 87 rfl rfl (op_fieldAddr_c rfl tf_39_0 rfl rfl ⟨rfl, rfl⟩) ?_)
          first | (refine DOps.st 88 rfl rfl (op_load_m1 (i := 0) rfl ta_3 rfl rfl rfl ⟨rfl, rfl⟩) ?_) | (refine DOps.st 88 rfl rfl (op_load_m1 (i := 1) rfl ta_3 rfl rfl rfl ⟨rfl, rfl⟩) ?_) | (refine DOps.st 88 rfl rfl (op_load_m1 (i := 2) rfl ta_3 rfl rfl rfl ⟨rfl, rfl⟩) ?_) | (refine DOps.st 88 rfl rfl (op_load_m1 (i := 3) rfl ta_3 rfl rfl rfl ⟨rfl, rfl⟩) ?_) | (refine DOps.st 88 rfl rfl (op_load_m1 (i := 4) rfl ta_3 rfl rfl rfl ⟨rfl, rfl⟩) ?_) | (refine DOps.st 88 rfl rfl (op_load_m1 (i := 5) rfl ta_3 rfl rfl rfl ⟨rfl, rfl⟩) ?_) | (refine DOps.st 88 rfl rfl (op_load_m1 (i := 6) rfl ta_3 rfl rfl rfl ⟨rfl, rfl⟩) ?_) | (refine DOps.st 88 rfl rfl (op_load_m1 (i := 7) rfl ta_3 rfl rfl rfl ⟨rfl, rfl⟩) ?_) | (refine DOps.st 88 rfl rfl (op_load_m1 (i := 8) rfl ta_3 rfl rfl rfl ⟨rfl, rfl⟩) ?_) | (refine DOps.st 88 rfl rfl (op_load_m1 (i := 9) rfl ta_3 rfl rfl rfl ⟨rfl, rfl⟩) ?_) | (refine DOps.st 88 rfl rfl (op_load_c1 rfl ta_3 rfl rfl ⟨rfl, rfl⟩) ?_)
          refine DOps.st 89 rfl rfl (op_fieldAddr_c rfl tf_26_1 rfl rfl ⟨rfl, rfl⟩) ?_
          refine DOps.st 90 rfl rfl (op_load_c1 rfl ta_23 rfl rfl ⟨rfl, rfl⟩) ?_
          refine DOps.st 91 rfl rfl (op_move rfl rfl ⟨rfl, rfl⟩) ?_
          refine DOps.st 92 rfl rfl (op_index rfl te_23 rfl (.seq _ _) rfl rfl (by assumption) ⟨rfl, rfl⟩) ?_
          first | (refine DOps.st 93 rfl rfl (op_fieldAddr_m rfl tf_39_0 rfl ⟨rfl, rfl⟩) ?_) | (refine DOps.st 93 rfl rfl (op_fieldAddr_c rfl tf_39_0 rfl rfl ⟨rfl, rfl⟩) ?_)
          first | (refine DOps.st 94 rfl rfl (op_load_m1 (i := 0) rfl ta_3 rfl rfl rfl ⟨rfl, rfl⟩) ?_) | (refine DOps.st 94 rfl rfl (op_load_m1 (i := 1) rfl ta_3 rfl rfl rfl ⟨rfl, rfl⟩) ?_) | (refine DOps.st 94 rfl rfl (op_load_m1 (i := 2) rfl ta_3 rfl rfl rfl ⟨rfl, rfl⟩) ?_) | (refine DOps.st 94 rfl rfl (op_load_m1 (i := 3) rfl ta_3 rfl rfl rfl ⟨rfl, rfl⟩) ?_) | (refine DOps.st 94 rfl rfl (op_load_m1 (i := 4) rfl ta_3 rfl rfl rfl ⟨rfl, rfl⟩) ?_) | (refine DOps.st 94 rfl rfl (op_load_m1 (i := 5) rfl ta_3 rfl rfl rfl ⟨rfl, rfl⟩) ?_) | (refine DOps.st 94 rfl rfl (op_load_m1 (i := 6) rfl ta_3 rfl rfl rfl ⟨rfl, rfl⟩) ?_) | (refine DOps.st 94 rfl rfl (op_load_m1 (i := 7) rfl ta_3 rfl rfl rfl ⟨rfl, rfl⟩) ?_) | (refine DOps.st 94 rfl rfl (op_load_m1 (i := 8) rfl ta_3 rfl rfl rfl ⟨rfl, rfl⟩) ?_) | (refine DOps.st 94 rfl rfl (op_load_m1 (i := 9) rfl ta_3 rfl rfl rfl ⟨rfl, rfl⟩) ?_) | (refine DOps.st 94 rfl rfl (op_load_c1 rfl ta_3 rfl rfl ⟨rfl, rfl⟩) ?_)
          refine DOps.cm 95 rfl rfl (fun _ q => op_neq rfl rfl rfl q) ?_; intro c95 h95
          refine DOps.st 96 rfl rfl (op_move rfl rfl ⟨rfl, rfl⟩) ?_
          rcases bool_split h95 with ⟨rfl, g95⟩ | ⟨rfl, g95⟩
          · skip
            refine DOps.gt 97 rfl rfl rfl rfl (op_fieldAddr_c rfl tf_26_1 rfl rfl ⟨rfl, rfl⟩) ?_
            refine DOps.gt 98 rfl rfl rfl rfl (op_load_c1 rfl ta_23 rfl rfl ⟨rfl, rfl⟩) ?_
            refine DOps.gt 99 rfl rfl rfl rfl (op_move rfl rfl ⟨rfl, rfl⟩) ?_
            refine DOps.gt 100 rfl rfl rfl rfl (op_index rfl te_23 rfl (.seq _ _) rfl rfl (by assumption) ⟨rfl, rfl⟩) ?_
            first | (refine DOps.gt 101 rfl rfl rfl rfl (op_fieldAddr_m rfl tf_39_1 rfl ⟨rfl, rfl⟩) ?_) | (refine DOps.gt 101 rfl rfl rfl rfl (op_fieldAddr_c rfl tf_39_1 rfl rfl ⟨rfl, rfl⟩) ?_)
            first | (refine DOps.gt 102 rfl rfl rfl rfl (op_load_m1 (i := 0) rfl ta_3 rfl rfl rfl ⟨rfl, rfl⟩) ?_) | (refine DOps.gt 102 rfl rfl rfl rfl (op_load_m1 (i := 1) rfl ta_3 rfl rfl rfl ⟨rfl, rfl⟩) ?_) | (refine DOps.gt 102 rfl rfl rfl rfl (op_load_m1 (i := 2) rfl ta_3 rfl rfl rfl ⟨rfl, rfl⟩) ?_) | (refine DOps.gt 102 rfl rfl rfl rfl (op_load_m1 (i := 3) rfl ta_3 rfl rfl rfl ⟨rfl, rfl⟩) ?_) | (refine DOps.gt 102 rfl rfl rfl rfl (op_load_m1 (i := 4) rfl ta_3 rfl rfl rfl ⟨rfl, rfl⟩) ?_) | (refine DOps.gt 102 rfl rfl rfl rfl (op_load_m1 (i := 5) rfl ta_3 rfl rfl rfl ⟨rfl, rfl⟩) ?_) | (refine DOps.gt 102 rfl rfl rfl rfl (op_load_m1 (i := 6) rfl ta_3 rfl rfl rfl ⟨rfl, rfl⟩) ?_) | (refine DOps.gt 102 rfl rfl rfl rfl (op_load_m1 (i := 7) rfl ta_3 rfl rfl rfl ⟨rfl, rfl⟩) ?_) | (refine DOps.gt 102 rfl rfl rfl rfl (op_load_m1 (i := 8) rfl ta_3 rfl rfl rfl ⟨rfl, rfl⟩) ?_) | (refine DOps.gt 102 rfl rfl rfl rfl (op_load_m1 (i := 9) rfl ta_3 rfl rfl rfl ⟨rfl, rfl⟩) ?_) | (refine DOps.gt 102 rfl rfl rfl rfl (op_load_c1 rfl ta_3 rfl rfl ⟨rfl, rfl⟩) ?_)
            refine DOps.gt 103 rfl rfl rfl rfl (op_fieldAddr_c rfl tf_26_1 rfl rfl ⟨rfl, rfl⟩) ?_
            refine DOps.gt 104 rfl rfl rfl rfl (op_load_c1 rfl ta_23 rfl rfl ⟨rfl, rfl⟩) ?_
            refine DOps.gt 105 rfl rfl rfl rfl (op_move rfl rfl ⟨rfl, rfl⟩) ?_
            refine DOps.gt 106 rfl rfl rfl rfl (op_index rfl te_23 rfl (.seq _ _) rfl rfl (by assumption) ⟨rfl, rfl⟩) ?_
            first | (refine DOps.gt 107 rfl rfl rfl rfl (op_fieldAddr_m rfl tf_39_1 rfl ⟨rfl, rfl⟩) ?_) | (refine DOps.gt 107 rfl rfl rfl rfl (op_fieldAddr_c rfl tf_39_1 rfl rfl ⟨rfl, rfl⟩) ?_)
            first | (refine DOps.gt 108 rfl rfl rfl rfl (op_load_m1 (i := 0) rfl ta_3 rfl rfl rfl ⟨rfl, rfl⟩) ?_) | (refine DOps.gt 108 rfl rfl rfl rfl (op_load_m1 (i := 1) rfl ta_3 rfl rfl rfl ⟨rfl, rfl⟩) ?_) | (refine DOps.gt 108 rfl rfl rfl rfl (op_load_m1 (i := 2) rfl ta_3 rfl rfl rfl ⟨rfl, rfl⟩) ?_) | (refine DOps.gt 108 rfl rfl rfl rfl (op_load_m1 (i := 3) rfl ta_3 rfl rfl rfl ⟨rfl, rfl⟩) ?_) | (refine DOps.gt 108 rfl rfl rfl rfl (op_load_m1 (i := 4) rfl ta_3 rfl rfl rfl ⟨rfl, rfl⟩) ?_) | (refine DOps.gt 108 rfl rfl rfl rfl (op_load_m1 (i := 5) rfl ta_3 rfl rfl rfl ⟨rfl, rfl⟩) ?_) | (refine DOps.gt 108 rfl rfl rfl rfl (op_load_m1 (i := 6) rfl ta_3 rfl rfl rfl ⟨rfl, rfl⟩) ?_) | (refine DOps.gt 108 rfl rfl rfl rfl (op_load_m1 (i := 7) rfl ta_3 rfl rfl rfl ⟨rfl, rfl⟩) ?_) | (refine DOps.gt 108 rfl rfl rfl rfl (op_load_m1 (i := 8) rfl ta_3 rfl rfl rfl ⟨rfl, rfl⟩) ?_) | (refine DOps.gt 108 rfl rfl rfl rfl (op_load_m1 (i := 9) rfl ta_3 rfl rfl rfl ⟨rfl, rfl⟩) ?_) | (refine DOps.gt 108 rfl rfl rfl rfl (op_load_c1 rfl ta_3 rfl rfl ⟨rfl, rfl⟩) ?_)
            refine DOps.gtc 109 rfl rfl rfl rfl (fun _ q => op_neq rfl rfl rfl q) ?_; intro c109 h109
            refine DOps.st 110 rfl rfl (op_pick rfl rfl rfl ⟨rfl, rfl⟩) ?_
            refine DOps.st 111 rfl rfl (op_move rfl rfl ⟨rfl, rfl⟩) ?_
            rcases bool_split h109 with ⟨rfl, g109⟩ | ⟨rfl, g109⟩
            · skip
              refine DOps.gt 112 rfl rfl rfl rfl (op_fieldAddr_c rfl tf_26_1 rfl rfl ⟨rfl, rfl⟩) ?_
              refine DOps.gt 113 rfl rfl rfl rfl (op_load_c1 rfl ta_23 rfl rfl ⟨rfl, rfl⟩) ?_
              refine DOps.gt 114 rfl rfl rfl rfl (op_move rfl rfl ⟨rfl, rfl⟩) ?_
              refine DOps.gt 115 rfl rfl rfl rfl (op_index rfl te_23 rfl (.seq _ _) rfl rfl (by assumption) ⟨rfl, rfl⟩) ?_
              first | (refine DOps.gt 116 rfl rfl rfl rfl (op_fieldAddr_m rfl tf_39_2 rfl ⟨rfl, rfl⟩) ?_) | (refine DOps.gt 116 rfl rfl rfl rfl (op_fieldAddr_c rfl tf_39_2 rfl rfl ⟨rfl, rfl⟩) ?_)
              first | (refine DOps.gt 117 rfl rfl rfl rfl (op_load_m1 (i := 0) rfl ta_3 rfl rfl rfl ⟨rfl, rfl⟩) ?_) | (refine DOps.gt 117 rfl rfl rfl rfl (op_load_m1 (i := 1) rfl ta_3 rfl rfl rfl ⟨rfl, rfl⟩) ?_) | (refine DOps.gt 117 rfl rfl rfl rfl (op_load_m1 (i := 2) rfl ta_3 rfl rfl rfl ⟨rfl, rfl⟩) ?_) | (refine DOps.gt 117 rfl rfl rfl rfl (op_load_m1 (i := 3) rfl ta_3 rfl rfl rfl ⟨rfl, rfl⟩) ?_) | (refine DOps.gt 117 rfl rfl rfl rfl (op_load_m1 (i := 4) rfl ta_3 rfl rfl rfl ⟨rfl, rfl⟩) ?_) | (refine DOps.gt 117 rfl rfl rfl rfl (op_load_m1 (i := 5) rfl ta_3 rfl rfl rfl ⟨rfl, rfl⟩) ?_) | (refine DOps.gt 117 rfl rfl rfl rfl (op_load_m1 (i := 6) rfl ta_3 rfl rfl rfl ⟨rfl, rfl⟩) ?_) | (refine DOps.gt 117 rfl rfl rfl rfl (op_load_m1 (i := 7) rfl ta_3 rfl rfl rfl ⟨rfl, rfl⟩) ?_) | (refine DOps.gt 117 rfl rfl rfl rfl (op_load_m1 (i := 8) rfl ta_3 rfl rfl rfl ⟨rfl, rfl⟩) ?_) | (refine DOps.gt 117 rfl rfl rfl rfl (op_load_m1 (i := 9) rfl ta_3 rfl rfl rfl ⟨rfl, rfl⟩) ?_) | (refine DOps.gt 117 rfl rfl rfl rfl (op_load_c1 rfl ta_3 rfl rfl ⟨rfl, rfl⟩) ?_)
              refine DOps.gt 118 rfl rfl rfl rfl (op_fieldAddr_c rfl tf_26_1 rfl rfl ⟨rfl, rfl⟩) ?_
              refine DOps.gt 119 rfl rfl rfl rfl (op_load_c1 rfl ta_23 rfl rfl ⟨rfl, rfl⟩) ?_
              refine DOps.gt 120 rfl rfl rfl rfl (op_move rfl rfl ⟨rfl, rfl⟩) ?_
              refine DOps.gt 121 rfl rfl rfl rfl (op_index rfl te_23 rfl (.seq _ _) rfl rfl (by assumption) ⟨rfl, rfl⟩) ?_
              first | (refine DOps.gt 122 rfl rfl rfl rfl (op_fieldAddr_m rfl tf_39_2 rfl ⟨rfl, rfl⟩) ?_) | (refine DOps.gt 122 rfl rfl rfl rfl (op_fieldAddr_c rfl tf_39_2 rfl rfl ⟨rfl, rfl⟩) ?_)
              first | (refine DOps.gt 123 rfl rfl rfl rfl (op_load_m1 (i := 0) rfl ta_3 rfl rfl rfl ⟨rfl, rfl⟩) ?_) | (refine DOps.gt 123 rfl rfl rfl rfl (op_load_m1 (i := 1) rfl ta_3 rfl rfl rfl ⟨rfl, rfl⟩) ?_) | (refine DOps.gt 123 rfl rfl rfl rfl (op_load_m1 (i := 2) rfl ta_3 rfl rfl rfl ⟨rfl, rfl⟩) ?_) | (refine DOps.gt 123 rfl rfl rfl rfl (op_load_m1 (i := 3) rfl ta_3 rfl rfl rfl ⟨rfl, rfl⟩) ?_) | (refine DOps.gt 123 rfl rfl rfl rfl (op_load_m1 (i := 4) rfl ta_3 rfl rfl rfl ⟨rfl, rfl⟩) ?_) | (refine DOps.gt 123 rfl rfl rfl rfl (op_load_m1 (i := 5) rfl ta_3 rfl rfl rfl ⟨rfl, rfl⟩) ?_) | (refine DOps.gt 123 rfl rfl rfl rfl (op_load_m1 (i := 6) rfl ta_3 rfl rfl rfl ⟨rfl, rfl⟩) ?_) | (refine DOps.gt 123 rfl rfl rfl rfl (op_load_m1 (i := 7) rfl ta_3 rfl rfl rfl ⟨rfl, rfl⟩) ?_) | (refine DOps.gt 123 rfl rfl rfl rfl (op_load_m1 (i := 8) rfl ta_3 rfl rfl rfl ⟨rfl, rfl⟩) ?_) | (refine DOps.gt 123 rfl rfl rfl rfl (op_load_m1 (i := 9) rfl ta_3 rfl rfl rfl ⟨rfl, rfl⟩) ?_) | (refine DOps.gt 123 rfl rfl rfl rfl (op_load_c1 rfl ta_3 rfl rfl ⟨rfl, rfl⟩) ?_)
              refine DOps.gtc 124 rfl rfl rfl rfl (fun _ q => op_neq rfl rfl rfl q) ?_; intro c124 h124
              refine DOps.st 125 rfl rfl (op_pick rfl rfl rfl ⟨rfl, rfl⟩) ?_
              show BoolQ _ _ _ _ _ _
              refine BoolQ.mk rfl ?_ (by repeat' (first | exact SLe.wo _ _ | exact SLe.refl _ | refine SLe.fresh rfl ?_)) (by first | exact MLe.none _ | exact MLe.refl _ | (repeat' (first | exact MLe.nil | exact MLe.refl _ | refine MLe.cons _ ?_ | refine MLe.drop _ ?_)))
              simp_all; done
            · skip
              refine DOps.gf 112 rfl rfl rfl rfl ?_
              refine DOps.gf 113 rfl rfl rfl rfl ?_
              refine DOps.gf 114 rfl rfl rfl rfl ?_
              refine DOps.gf 115 rfl rfl rfl rfl ?_
              refine DOps.gf 116 rfl rfl rfl rfl ?_
              refine DOps.gf 117 rfl rfl rfl rfl ?_
              refine DOps.gf 118 rfl rfl rfl rfl ?_
              refine DOps.gf 119 rfl rfl rfl rfl ?_
              refine DOps.gf 120 rfl rfl rfl rfl ?_
              refine DOps.gf 121 rfl rfl rfl rfl ?_
              refine DOps.gf 122 rfl rfl rfl rfl ?_
              refine DOps.gf 123 rfl rfl rfl rfl ?_
              refine DOps.gf 124 rfl rfl rfl rfl ?_
              refine DOps.st 125 rfl rfl (op_pick rfl rfl rfl ⟨rfl, rfl⟩) ?_
              show BoolQ _ _ _ _ _ _
              refine BoolQ.mk rfl ?_ (by repeat' (first | exact SLe.wo _ _ | exact SLe.refl _ | refine SLe.fresh rfl ?_)) (by first | exact MLe.none _ | exact MLe.refl _ | (repeat' (first | exact MLe.nil | exact MLe.refl _ | refine MLe.cons _ ?_ | refine MLe.drop _ ?_)))
              simp_all; done
          · skip
            refine DOps.gf 97 rfl rfl rfl rfl ?_
            refine DOps.gf 98 rfl rfl rfl rfl ?_
            refine DOps.gf 99 rfl rfl rfl rfl ?_
            refine DOps.gf 100 rfl rfl rfl rfl ?_
            refine DOps.gf 101 rfl rfl rfl rfl ?_
            refine DOps.gf 102 rfl rfl rfl rfl ?_
            refine DOps.gf 103 rfl rfl rfl rfl ?_
            refine DOps.gf 104 rfl rfl rfl rfl ?_
            refine DOps.gf 105 rfl rfl rfl rfl ?_
            refine DOps.gf 106 rfl rfl rfl rfl ?_
            refine DOps.gf 107 rfl rfl rfl rfl ?_
            refine DOps.gf 108 rfl rfl rfl rfl ?_
            refine DOps.gf 109 rfl rfl rfl rfl ?_
            refine DOps.st 110 rfl rfl (op_pick rfl rfl rfl ⟨rfl, rfl⟩) ?_
            refine DOps.st 111 rfl rfl (op_move rfl rfl ⟨rfl, rfl⟩) ?_
            refine DOps.gf 112 rfl rfl rfl rfl ?_
            refine DOps.gf 113 rfl rfl rfl rfl ?_
            refine DOps.gf 114 rfl rfl rfl rfl ?_
            refine DOps.gf 115 rfl rfl rfl rfl ?_
            refine DOps.gf 116 rfl rfl rfl rfl ?_
            refine DOps.gf 117 rfl rfl rfl rfl ?_
            refine DOps.gf 118 rfl rfl rfl rfl ?_
            refine DOps.gf 119 rfl rfl rfl rfl ?_
            refine DOps.gf 120 rfl rfl rfl rfl ?_
            refine DOps.gf 121 rfl rfl rfl rfl ?_
            refine DOps.gf 122 rfl rfl rfl rfl ?_
            refine DOps.gf 123 rfl rfl rfl rfl ?_
            refine DOps.gf 124 rfl rfl rfl rfl ?_
            refine DOps.st 125 rfl rfl (op_pick rfl rfl rfl ⟨rfl, rfl⟩) ?_
            show BoolQ _ _ _ _ _ _
            refine BoolQ.mk rfl ?_ (by repeat' (first | exact SLe.wo _ _ | exact SLe.refl _ | refine SLe.fresh rfl ?_)) (by first | exact MLe.none _ | exact MLe.refl _ | (repeat' (first | exact MLe.nil | exact MLe.refl _ | refine MLe.cons _ ?_ | refine MLe.drop _ ?_)))
            simp_all; done
        intro c125 h125
        refine go_code ?_
        rcases bool_split h125 with ⟨rfl, g125⟩ | ⟨rfl, g125⟩
        · refine c_cond_f rfl ?_
          refine c_skip ?_
          refine go_blk ?_
          refine go_code ?_
          refine c_region ?_
          refine AOps.st 81 rfl rfl rfl (op_move rfl rfl ?_)
          refine AOps.st 82 rfl rfl rfl (op_add rfl rfl rfl (IntWalk.i64_in _ (by omega)) ?_)
          refine AOps.st 6 rfl rfl rfl (op_assign rfl rfl ?_)
          refine AOps.nil ?_
          refine go_lp ?_
          exact ⟨i + 1, ⟨by omega, hu.succ hxx hxy (by obtain ⟨rfl, rfl, rfl⟩ := Classical.not_not.1 g125; rfl)⟩, by simp; omega, (by repeat' (first | exact SLe.nil _ | refine SLe.cons rfl ?_ ?_ | exact Le.refl _ | exact Le.own _ _ _ | exact Le.nil _)), (by first | exact MLe.none _ | exact MLe.refl _ | (repeat' (first | exact MLe.nil | exact MLe.refl _ | refine MLe.cons _ ?_ | refine MLe.drop _ ?_)))⟩
        · refine c_cond_t rfl ?_
          refine c_seq ?_
          refine c_region ?_
          refine AOps.st 4 rfl rfl rfl (op_assign rfl rfl ?_)
          refine AOps.nil ?_
          refine go_code ?_
          refine c_ret ?_
          exact out_tmp rfl rfl (Le.refl _) (by first | exact MLe.none _ | exact MLe.refl _ | (repeat' (first | exact MLe.nil | exact MLe.refl _ | refine MLe.cons _ ?_ | refine MLe.drop _ ?_))) ⟨⟨_, iff_f (fun e => g125 (by have q := e.2.2.2.2.1; subst q; rw [hxx] at hxy; cases hxy; exact ⟨rfl, rfl, rfl⟩)), rfl⟩, rfl⟩
    · refine c_cond_t rfl ?_
      refine c_skip ?_
      refine go_code ?_
      refine c_seq ?_
      refine c_block ?_
      refine c_seq ?_
      obtain ⟨x, hxx⟩ := get_some (l := tx1) (i := i) (by first | omega | (simp at *; omega))
      have hcx := strs_get hxx
      have hmx := List.mem_of_getElem? hxx
      obtain ⟨y, hxy⟩ := get_some (l := tx2) (i := i) (by first | omega | (simp at *; omega))
      have hcy := strs_get hxy
      have hmy := List.mem_of_getElem? hxy
      refine c_drawn tmix rfl ?_
      refine DOps.st 65 rfl rfl (op_fieldAddr_c rfl tf_26_2 rfl rfl ⟨rfl, rfl⟩) ?_
      refine DOps.st 66 rfl rfl (op_load_c1 rfl ta_24 rfl rfl ⟨rfl, rfl⟩) ?_
      refine DOps.st 67 rfl rfl (op_move rfl rfl ⟨rfl, rfl⟩) ?_
      refine DOps.st 68 rfl rfl (op_index rfl te_24 rfl (.seq _ _) rfl rfl (by assumption) ⟨rfl, rfl⟩) ?_
      first | (refine DOps.st 69 rfl rfl (op_load_m1 (i := 0) rfl ta_9 rfl rfl rfl ⟨rfl, rfl⟩) ?_) | (refine DOps.st 69 rfl rfl (op_load_m1 (i := 1) rfl ta_9 rfl rfl rfl ⟨rfl, rfl⟩) ?_) | (refine DOps.st 69 rfl rfl (op_load_m1 (i := 2) rfl ta_9 rfl rfl rfl ⟨rfl, rfl⟩) ?_) | (refine DOps.st 69 rfl rfl (op_load_m1 (i := 3) rfl ta_9 rfl rfl rfl ⟨rfl, rfl⟩) ?_) | (refine DOps.st 69 rfl rfl (op_load_m1 (i := 4) rfl ta_9 rfl rfl rfl ⟨rfl, rfl⟩) ?_) | (refine DOps.st 69 rfl rfl (op_load_m1 (i := 5) rfl ta_9 rfl rfl rfl ⟨rfl, rfl⟩) ?_) | (refine DOps.st 69 rfl rfl (op_load_m1 (i := 6) rfl ta_9 rfl rfl rfl ⟨rfl, rfl⟩) ?_) | (refine DOps.st 69 rfl rfl (op_load_m1 (i := 7) rfl ta_9 rfl rfl rfl ⟨rfl, rfl⟩) ?_) | (refine DOps.st 69 rfl rfl (op_load_m1 (i := 8) rfl ta_9 rfl rfl rfl ⟨rfl, rfl⟩) ?_) | (refine DOps.st 69 rfl rfl (op_load_m1 (i := 9) rfl ta_9 rfl rfl rfl ⟨rfl, rfl⟩) ?_) | (refine DOps.st 69 rfl rfl (op_load_c1 rfl ta_9 rfl rfl ⟨rfl, rfl⟩) ?_)
      refine DOps.st 70 rfl rfl (op_fieldAddr_c rfl tf_26_2 rfl rfl ⟨rfl, rfl⟩) ?_
      refine DOps.st 71 rfl rfl (op_load_c1 rfl ta_24 rfl rfl ⟨rfl, rfl⟩) ?_
      refine DOps.st 72 rfl rfl (op_move rfl rfl ⟨rfl, rfl⟩) ?_
      refine DOps.st 73 rfl rfl (op_index rfl te_24 rfl (.seq _ _) rfl rfl (by assumption) ⟨rfl, rfl⟩) ?_
      first | (refine DOps.st 74 rfl rfl (op_load_m1 (i := 0) rfl ta_9 rfl rfl rfl ⟨rfl, rfl⟩) ?_) | (refine DOps.st 74 rfl rfl (op_load_m1 (i := 1) rfl ta_9 rfl rfl rfl ⟨rfl, rfl⟩) ?_) | (refine DOps.st 74 rfl rfl (op_load_m1 (i := 2) rfl ta_9 rfl rfl rfl ⟨rfl, rfl⟩) ?_) | (refine DOps.st 74 rfl rfl (op_load_m1 (i := 3) rfl ta_9 rfl rfl rfl ⟨rfl, rfl⟩) ?_) | (refine DOps.st 74 rfl rfl (op_load_m1 (i := 4) rfl ta_9 rfl rfl rfl ⟨rfl, rfl⟩) ?_) | (refine DOps.st 74 rfl rfl (op_load_m1 (i := 5) rfl ta_9 rfl rfl rfl ⟨rfl, rfl⟩) ?_) | (refine DOps.st 74 rfl rfl (op_load_m1 (i := 6) rfl ta_9 rfl rfl rfl ⟨rfl, rfl⟩) ?_) | (refine DOps.st 74 rfl rfl (op_load_m1 (i := 7) rfl ta_9 rfl rfl rfl ⟨rfl, rfl⟩) ?_) | (refine DOps.st 74 rfl rfl (op_load_m1 (i := 8) rfl ta_9 rfl rfl rfl ⟨rfl, rfl⟩) ?_) | (refine DOps.st 74 rfl rfl (op_load_m1 (i := 9) rfl ta_9 rfl rfl rfl ⟨rfl, rfl⟩) ?_) | (refine DOps.st 74 rfl rfl (op_load_c1 rfl ta_9 rfl rfl ⟨rfl, rfl⟩) ?_)
      refine DOps.cm 75 rfl rfl (fun _ q => op_sneq rfl rfl rfl q) ?_; intro c75 h75
      show AGo _ _ _ _ _ _ _
      refine go_code ?_
      rcases bool_split h75 with ⟨rfl, g75⟩ | ⟨rfl, g75⟩
      · refine c_cond_f rfl ?_
        refine c_skip ?_
        refine go_blk ?_
        refine go_code ?_
        refine c_region ?_
        refine AOps.st 63 rfl rfl rfl (op_move rfl rfl ?_)
        refine AOps.st 64 rfl rfl rfl (op_add rfl rfl rfl (IntWalk.i64_in _ (by omega)) ?_)
        refine AOps.st 5 rfl rfl rfl (op_assign rfl rfl ?_)
        refine AOps.nil ?_
        refine go_lp ?_
        exact ⟨i + 1, ⟨by omega, hu.succ hxx hxy (Classical.not_not.1 g75)⟩, by simp; omega, (by repeat' (first | exact SLe.nil _ | refine SLe.cons rfl ?_ ?_ | exact Le.refl _ | exact Le.own _ _ _ | exact Le.nil _)), (by first | exact MLe.none _ | exact MLe.refl _ | (repeat' (first | exact MLe.nil | exact MLe.refl _ | refine MLe.cons _ ?_ | refine MLe.drop _ ?_)))⟩
      · refine c_cond_t rfl ?_
        refine c_seq ?_
        refine c_region ?_
        refine AOps.st 4 rfl rfl rfl (op_assign rfl rfl ?_)
        refine AOps.nil ?_
        refine go_code ?_
        refine c_ret ?_
        exact out_tmp rfl rfl (Le.refl _) (by first | exact MLe.none _ | exact MLe.refl _ | (repeat' (first | exact MLe.nil | exact MLe.refl _ | refine MLe.cons _ ?_ | refine MLe.drop _ ?_))) ⟨⟨_, iff_f (fun e => g75 (by have q := e.2.2.2.1; subst q; rw [hxx] at hxy; cases hxy; rfl)), rfl⟩, rfl⟩
  · refine c_cond_t rfl ?_
    refine c_seq ?_
    refine c_region ?_
    refine AOps.st 4 rfl rfl rfl (op_assign rfl rfl ?_)
    refine AOps.nil ?_
    refine go_code ?_
    refine c_ret ?_
    exact out_tmp rfl rfl (Le.refl _) (by first | exact MLe.none _ | exact MLe.refl _ | (repeat' (first | exact MLe.nil | exact MLe.refl _ | refine MLe.cons _ ?_ | refine MLe.drop _ ?_))) ⟨⟨_, iff_f (fun ⟨q1, q2, q3, q4, q5, q6⟩ => g57 ⟨q1, q2, q3, by rw [q4], by rw [q5], by rw [q6]⟩), rfl⟩, rfl⟩
set_option maxHeartbeats 4000000 in
set_option maxRecDepth 100000 in
theorem Small29_z (c : Cd) (m : Int) : ZCall Try.prog 6 [.agg c.cells, .val (.int .i64 m)] := by
  obtain ⟨is, fu, tx, gl, ys, no⟩ := c
  have hl1 := Is.cellss_len is
  have hl5 := strs_len tx
  refine ACall.enter Try.func6 rfl (by kernel_rfl) rfl (Nat.le_of_ble_eq_true rfl) ?_
  refine c_start ?_
  refine c_lena (t := 0) (j := 0) rfl rfl (.seq _ _) (fun hmax => ?_)
  refine c_lena (t := 0) (j := 2) rfl rfl (.seq _ _) (fun hmax3 => ?_)
  refine c_seq ?_
  refine c_region ?_
  refine AOps.st 2 rfl rfl rfl (op_boxc (cs' := [_, _, _, _, _, _]) rfl rfl rfl rfl ?_)
  refine AOps.st 4 rfl rfl rfl (op_assign rfl rfl ?_)
  refine AOps.nil ?_
  refine go_code ?_
  refine c_seq ?_
  refine c_region ?_
  refine AOps.st 12 rfl rfl rfl (op_fieldAddr_c rfl tf_26_0 rfl rfl ?_)
  refine AOps.st 13 rfl rfl rfl (op_load_c1 rfl ta_22 rfl rfl ?_)
  refine AOps.st 14 rfl rfl rfl (op_len rfl tu_22 rfl (.seq _ _) (fun n14 => ?_))
  refine AOps.st 15 rfl rfl rfl (op_fieldAddr_c rfl tf_26_1 rfl rfl ?_)
  refine AOps.st 16 rfl rfl rfl (op_load_c1 rfl ta_23 rfl rfl ?_)
  refine AOps.st 17 rfl rfl rfl (op_len rfl tu_23 rfl (.seq _ _) (fun n17 => ?_))
  first | (refine AOps.st 18 rfl rfl rfl (op_add rfl rfl rfl (IntWalk.i64_in _ (by omega)) ?_)) | (refine AOps.st 18 rfl rfl rfl (op_add rfl rfl rfl rfl ?_))
  refine AOps.st 19 rfl rfl rfl (op_fieldAddr_c rfl tf_26_2 rfl rfl ?_)
  refine AOps.st 20 rfl rfl rfl (op_load_c1 rfl ta_24 rfl rfl ?_)
  refine AOps.st 21 rfl rfl rfl (op_len rfl tu_24 rfl (.seq _ _) (fun n21 => ?_))
  first | (refine AOps.st 22 rfl rfl rfl (op_add rfl rfl rfl (IntWalk.i64_in _ (by omega)) ?_)) | (refine AOps.st 22 rfl rfl rfl (op_add rfl rfl rfl rfl ?_))
  refine AOps.st 5 rfl rfl rfl (op_assign rfl rfl ?_)
  refine AOps.nil ?_
  refine go_code ?_
  refine c_seq ?_
  refine c_seq ?_
  refine c_region ?_
  refine AOps.st 23 rfl rfl rfl (op_move rfl rfl ?_)
  refine AOps.st 24 rfl rfl rfl (op_move rfl rfl ?_)
  refine AOps.st 25 rfl rfl rfl (op_gtr rfl rfl rfl ?_); intro c25 h25
  refine AOps.nil ?_
  refine go_code ?_
  rcases bool_split h25 with ⟨rfl, g25⟩ | ⟨rfl, g25⟩
  · refine c_cond_f rfl ?_
    refine c_skip ?_
    refine go_code ?_
    refine c_seq ?_
    refine c_seq ?_
    refine c_region ?_
    refine AOps.st 26 rfl rfl rfl (op_fieldAddr_c rfl tf_26_2 rfl rfl ?_)
    refine AOps.st 27 rfl rfl rfl (op_load_c1 rfl ta_24 rfl rfl ?_)
    refine AOps.st 28 rfl rfl rfl (op_len rfl tu_24 rfl (.seq _ _) (fun n28 => ?_))
    refine AOps.st 29 rfl rfl rfl (op_move rfl rfl ?_)
    refine AOps.nil ?_
    refine go_code ?_
    refine c_block ?_
    apply c_loopkm [0, 3, 5, 6, 7, 8, 10, 12, 13, 14, 15, 16, 17, 18, 19, 20, 21, 22, 23, 24, 25, 26, 29, 30, 31, 32, 33, 34, 35, 36, 37] (σ := Nat × Int) (fun zz => match zz with | (i, n) => [(29, .val (.int .i64 i)), (5, .val (.int .i64 n))]) (fun zz => match zz with | (i, n) => i ≤ tx.length) (fun zz => match zz with | (i, n) => tx.length - i) ((0, _))
    · repeat' (first | exact Drops.nil | apply Drops.keep rfl | apply Drops.skip rfl)
    · exact Nat.zero_le _
    · exact (by repeat' (first | exact SLe.nil _ | refine SLe.cons rfl ?_ ?_ | exact Le.refl _ | exact Le.own _ _ _ | exact Le.nil _))
    rintro ⟨i, n⟩ hI
    try dsimp only [List.cons_append, List.nil_append] at hI ⊢
    refine c_seq ?_
    refine c_region ?_
    refine AOps.st 30 rfl rfl rfl (op_lss rfl rfl rfl ?_); intro c30 h30
    refine AOps.nil ?_
    refine go_code ?_
    refine c_seq ?_
    rcases bool_split h30 with ⟨rfl, g30⟩ | ⟨rfl, g30⟩
    · refine c_cond_f rfl ?_
      refine c_exit ?_
      refine x_code ?_
      refine x_lp ?_
      refine x_here ?_
      refine go_code ?_
      refine c_seq ?_
      refine c_seq ?_
      refine c_region ?_
      refine AOps.st 38 rfl rfl rfl (op_fieldAddr_c rfl tf_26_0 rfl rfl ?_)
      refine AOps.st 39 rfl rfl rfl (op_load_c1 rfl ta_22 rfl rfl ?_)
      refine AOps.st 40 rfl rfl rfl (op_len rfl tu_22 rfl (.seq _ _) (fun n40 => ?_))
      refine AOps.st 41 rfl rfl rfl (op_move rfl rfl ?_)
      refine AOps.nil ?_
      refine go_code ?_
      refine c_block ?_
      apply c_loopkm [0, 2, 3, 4, 5, 6, 7, 8, 9, 10, 11, 12, 13, 14, 15, 16, 17, 18, 19, 20, 21, 22, 23, 24, 25, 26, 27, 28, 29, 30, 31, 32, 33, 34, 35, 36, 37, 38, 41, 42, 43, 44, 45, 46, 47, 48, 49, 50, 51, 52, 53, 54, 55, 56, 57, 58, 59, 60, 61, 62, 63, 64, 65, 66, 67, 68, 69, 70] (σ := Nat × Int) (fun zz => match zz with | (i, n) => [(41, .val (.int .i64 i)), (5, .val (.int .i64 n))]) (fun zz => match zz with | (i, n) => i ≤ is.length) (fun zz => match zz with | (i, n) => is.length - i) ((0, n))
      · repeat' (first | exact Drops.nil | apply Drops.keep rfl | apply Drops.skip rfl)
      · exact Nat.zero_le _
      · exact (by repeat' (first | exact SLe.nil _ | refine SLe.cons rfl ?_ ?_ | exact Le.refl _ | exact Le.own _ _ _ | exact Le.nil _))
      rintro ⟨i, n⟩ hI
      try dsimp only [List.cons_append, List.nil_append] at hI ⊢
      refine c_seq ?_
      refine c_region ?_
      refine AOps.st 42 rfl rfl rfl (op_lss rfl rfl rfl ?_); intro c42 h42
      refine AOps.nil ?_
      refine go_code ?_
      refine c_seq ?_
      rcases bool_split h42 with ⟨rfl, g42⟩ | ⟨rfl, g42⟩
      · refine c_cond_f rfl ?_
        refine c_exit ?_
        refine x_code ?_
        refine x_lp ?_
        refine x_here ?_
        refine go_code ?_
        refine c_seq ?_
        refine c_region ?_
        refine AOps.st 71 rfl rfl rfl (op_move rfl rfl ?_)
        refine AOps.st 72 rfl rfl rfl (op_move rfl rfl ?_)
        refine AOps.st 73 rfl rfl rfl (op_leq rfl rfl rfl ?_); intro c73 h73
        refine AOps.st 4 rfl rfl rfl (op_assign rfl rfl ?_)
        refine AOps.nil ?_
        refine go_code ?_
        refine c_ret ?_
        exact out_tmp rfl rfl (Le.refl _) (by first | exact MLe.none _ | exact MLe.refl _ | (repeat' (first | exact MLe.nil | exact MLe.refl _ | refine MLe.cons _ ?_ | refine MLe.drop _ ?_))) ⟨⟨_, rfl⟩, rfl⟩
      · refine c_cond_t rfl ?_
        refine c_skip ?_
        refine go_code ?_
        refine c_seq ?_
        refine c_block ?_
        refine c_seq ?_
        obtain ⟨⟨xop, xa, xb, xn, xar, xfs, xcp⟩, hxx⟩ := get_some (l := is) (i := i) (by first | omega | (simp at *; omega))
        have hcx := Is.cellss_get hxx
        have hmx := List.mem_of_getElem? hxx
        refine c_region ?_
        refine AOps.st 43 rfl rfl rfl (op_index rfl te_22 rfl (.seq _ _) rfl rfl (by assumption) ?_)
        first | (refine AOps.st 44 rfl rfl rfl (op_load_m (cs' := [_, _, _, _, _, _, _]) (i := 0) rfl ta_46 rfl rfl rfl rfl ?_)) | (refine AOps.st 44 rfl rfl rfl (op_load_m (cs' := [_, _, _, _, _, _, _]) (i := 1) rfl ta_46 rfl rfl rfl rfl ?_)) | (refine AOps.st 44 rfl rfl rfl (op_load_m (cs' := [_, _, _, _, _, _, _]) (i := 2) rfl ta_46 rfl rfl rfl rfl ?_)) | (refine AOps.st 44 rfl rfl rfl (op_load_m (cs' := [_, _, _, _, _, _, _]) (i := 3) rfl ta_46 rfl rfl rfl rfl ?_)) | (refine AOps.st 44 rfl rfl rfl (op_load_m (cs' := [_, _, _, _, _, _, _]) (i := 4) rfl ta_46 rfl rfl rfl rfl ?_)) | (refine AOps.st 44 rfl rfl rfl (op_load_m (cs' := [_, _, _, _, _, _, _]) (i := 5) rfl ta_46 rfl rfl rfl rfl ?_)) | (refine AOps.st 44 rfl rfl rfl (op_load_m (cs' := [_, _, _, _, _, _, _]) (i := 6) rfl ta_46 rfl rfl rfl rfl ?_)) | (refine AOps.st 44 rfl rfl rfl (op_load_m (cs' := [_, _, _, _, _, _, _]) (i := 7) rfl ta_46 rfl rfl rfl rfl ?_)) | (refine AOps.st 44 rfl rfl rfl (op_load_m (cs' := [_, _, _, _, _, _, _]) (i := 8) rfl ta_46 rfl rfl rfl rfl ?_)) | (refine AOps.st 44 rfl rfl rfl (op_load_m (cs' := [_, _, _, _, _, _, _]) (i := 9) rfl ta_46 rfl rfl rfl rfl ?_)) | (refine AOps.st 44 rfl rfl rfl (op_load_c (cs' := [_, _, _, _, _, _, _]) rfl ta_46 rfl rfl rfl ?_))
        refine AOps.st 9 rfl rfl rfl (op_alloce (cs' := [_, _, _, _, _, _, _]) rfl tz_46 rfl rfl ?_); intro b9
        refine AOps.st0 rfl rfl (op_store (cs' := [_, _, _, _, _, _, _]) (i := 0) rfl ts_46 rfl rfl rfl rfl rfl (Nat.le_of_ble_eq_true rfl) rfl ?_)
        refine AOps.nil ?_
        refine go_code ?_
        refine c_seq ?_
        refine c_region ?_
        refine AOps.st 45 rfl rfl rfl (op_move rfl rfl ?_)
        refine AOps.st 46 rfl rfl rfl (op_fieldAddr_m rfl tf_46_4 rfl ?_)
        refine AOps.st 47 rfl rfl rfl (op_load_m1 (i := 0) rfl ta_42 rfl rfl rfl ?_)
        refine AOps.st 48 rfl rfl rfl (op_len rfl tu_42 rfl (.seq _ _) (fun n48 => ?_))
        refine AOps.st 49 rfl rfl rfl (op_fieldAddr_m rfl tf_46_5 rfl ?_)
        refine AOps.st 50 rfl rfl rfl (op_load_m1 (i := 0) rfl ta_43 rfl rfl rfl ?_)
        refine AOps.st 51 rfl rfl rfl (op_len rfl tu_43 rfl (.seq _ _) (fun n51 => ?_))
        first | (refine AOps.st 52 rfl rfl rfl (op_add rfl rfl rfl (IntWalk.i64_in _ (by omega)) ?_)) | (refine AOps.st 52 rfl rfl rfl (op_add rfl rfl rfl rfl ?_))
        first | (refine AOps.st 53 rfl rfl rfl (op_add rfl rfl rfl (IntWalk.i64_in _ (by omega)) ?_)) | (refine AOps.st 53 rfl rfl rfl (op_add rfl rfl rfl rfl ?_))
        refine AOps.st 5 rfl rfl rfl (op_assign rfl rfl ?_)
        refine AOps.nil ?_
        refine go_code ?_
        refine c_seq ?_
        refine c_seq ?_
        refine c_region ?_
        refine AOps.st 54 rfl rfl rfl (op_fieldAddr_m rfl tf_46_6 rfl ?_)
        refine AOps.st 55 rfl rfl rfl (op_load_m1 (i := 0) rfl ta_44 rfl rfl rfl ?_)
        refine AOps.st 56 rfl rfl rfl (op_len rfl tu_44 rfl (.seq _ _) (fun n56 => ?_))
        refine AOps.st 57 rfl rfl rfl (op_move rfl rfl ?_)
        refine AOps.nil ?_
        refine go_code ?_
        refine c_block ?_
        apply c_loopkm [0, 2, 3, 5, 6, 7, 8, 10, 11, 12, 13, 14, 15, 16, 17, 18, 19, 20, 21, 22, 23, 24, 25, 26, 27, 28, 29, 30, 31, 32, 33, 34, 35, 36, 37, 38, 57, 58, 59, 60, 61, 62, 63, 64, 65, 66] (σ := Nat × Int) (fun zz => match zz with | (j, n) => [(57, .val (.int .i64 j)), (5, .val (.int .i64 n))]) (fun zz => match zz with | (j, n) => j ≤ xcp.length) (fun zz => match zz with | (j, n) => xcp.length - j) ((0, _))
        · repeat' (first | exact Drops.nil | apply Drops.keep rfl | apply Drops.skip rfl)
        · exact Nat.zero_le _
        · exact (by repeat' (first | exact SLe.nil _ | refine SLe.cons rfl ?_ ?_ | exact Le.refl _ | exact Le.own _ _ _ | exact Le.nil _))
        rintro ⟨j, n⟩ hI
        try dsimp only [List.cons_append, List.nil_append] at hI ⊢
        refine c_seq ?_
        refine c_region ?_
        refine AOps.st 58 rfl rfl rfl (op_lss rfl rfl rfl ?_); intro c58 h58
        refine AOps.nil ?_
        refine go_code ?_
        refine c_seq ?_
        rcases bool_split h58 with ⟨rfl, g58⟩ | ⟨rfl, g58⟩
        · refine c_cond_f rfl ?_
          refine c_exit ?_
          refine x_code ?_
          refine x_lp ?_
          refine x_here ?_
          refine go_code ?_
          refine c_seq ?_
          refine c_region ?_
          refine AOps.st 67 rfl rfl rfl (op_move rfl rfl ?_)
          refine AOps.st 68 rfl rfl rfl (op_move rfl rfl ?_)
          refine AOps.st 69 rfl rfl rfl (op_gtr rfl rfl rfl ?_); intro c69 h69
          refine AOps.nil ?_
          refine go_code ?_
          rcases bool_split h69 with ⟨rfl, g69⟩ | ⟨rfl, g69⟩
          · refine c_cond_f rfl ?_
            refine c_skip ?_
            refine go_blk ?_
            refine go_code ?_
            refine c_region ?_
            refine AOps.st 70 rfl rfl rfl (op_add rfl rfl rfl (IntWalk.i64_in _ (by omega)) ?_)
            refine AOps.st 41 rfl rfl rfl (op_move rfl rfl ?_)
            refine AOps.nil ?_
            refine go_lp ?_
            exact ⟨(i + 1, _), by show i + 1 ≤ _; omega, by simp; omega, (by repeat' (first | exact SLe.nil _ | refine SLe.cons rfl ?_ ?_ | exact Le.refl _ | exact Le.own _ _ _ | exact Le.nil _)), (by first | exact MLe.none _ | exact MLe.refl _ | (repeat' (first | exact MLe.nil | exact MLe.refl _ | refine MLe.cons _ ?_ | refine MLe.drop _ ?_)))⟩
          · refine c_cond_t rfl ?_
            refine c_seq ?_
            refine c_region ?_
            refine AOps.st 4 rfl rfl rfl (op_assign rfl rfl ?_)
            refine AOps.nil ?_
            refine go_code ?_
            refine c_ret ?_
            exact out_tmp rfl rfl (Le.refl _) (by first | exact MLe.none _ | exact MLe.refl _ | (repeat' (first | exact MLe.nil | exact MLe.refl _ | refine MLe.cons _ ?_ | refine MLe.drop _ ?_))) ⟨⟨_, rfl⟩, rfl⟩
        · refine c_cond_t rfl ?_
          refine c_skip ?_
          refine go_code ?_
          refine c_seq ?_
          refine c_block ?_
          refine c_seq ?_
          obtain ⟨l1, hq1⟩ := get_some (l := xcp) (i := j) (by have := Ato.cellsss_len xcp; omega)
          have hcq1 := Ato.cellsss_get hq1
          refine c_region ?_
          refine AOps.st 59 rfl rfl rfl (op_index rfl te_44 rfl (.seq _ _) rfl rfl (by assumption) ?_)
          first | (refine AOps.st 60 rfl rfl rfl (op_load_m1 (i := 0) rfl ta_42 rfl rfl rfl ?_)) | (refine AOps.st 60 rfl rfl rfl (op_load_m1 (i := 1) rfl ta_42 rfl rfl rfl ?_)) | (refine AOps.st 60 rfl rfl rfl (op_load_m1 (i := 2) rfl ta_42 rfl rfl rfl ?_)) | (refine AOps.st 60 rfl rfl rfl (op_load_m1 (i := 3) rfl ta_42 rfl rfl rfl ?_)) | (refine AOps.st 60 rfl rfl rfl (op_load_m1 (i := 4) rfl ta_42 rfl rfl rfl ?_)) | (refine AOps.st 60 rfl rfl rfl (op_load_m1 (i := 5) rfl ta_42 rfl rfl rfl ?_)) | (refine AOps.st 60 rfl rfl rfl (op_load_m1 (i := 6) rfl ta_42 rfl rfl rfl ?_)) | (refine AOps.st 60 rfl rfl rfl (op_load_m1 (i := 7) rfl ta_42 rfl rfl rfl ?_)) | (refine AOps.st 60 rfl rfl rfl (op_load_m1 (i := 8) rfl ta_42 rfl rfl rfl ?_)) | (refine AOps.st 60 rfl rfl rfl (op_load_m1 (i := 9) rfl ta_42 rfl rfl rfl ?_)) | (refine AOps.st 60 rfl rfl rfl (op_load_c1 rfl ta_42 rfl rfl ?_))
          refine AOps.st 11 rfl rfl rfl (op_assign rfl rfl ?_)
          refine AOps.nil ?_
          refine go_code ?_
          refine c_region ?_
          refine AOps.st 61 rfl rfl rfl (op_move rfl rfl ?_)
          refine AOps.st 62 rfl rfl rfl (op_move rfl rfl ?_)
          refine AOps.st 63 rfl rfl rfl (op_len rfl tu_42 rfl (.seq _ _) (fun n63 => ?_))
          first | (refine AOps.st 64 rfl rfl rfl (op_add rfl rfl rfl (IntWalk.i64_in _ (by omega)) ?_)) | (refine AOps.st 64 rfl rfl rfl (op_add rfl rfl rfl rfl ?_))
          first | (refine AOps.st 65 rfl rfl rfl (op_add rfl rfl rfl (IntWalk.i64_in _ (by omega)) ?_)) | (refine AOps.st 65 rfl rfl rfl (op_add rfl rfl rfl rfl ?_))
          refine AOps.st 5 rfl rfl rfl (op_assign rfl rfl ?_)
          refine AOps.nil ?_
          refine go_blk ?_
          refine go_code ?_
          refine c_region ?_
          refine AOps.st 66 rfl rfl rfl (op_add rfl rfl rfl (IntWalk.i64_in _ (by omega)) ?_)
          refine AOps.st 57 rfl rfl rfl (op_move rfl rfl ?_)
          refine AOps.nil ?_
          refine go_lp ?_
          exact ⟨(j + 1, _), by have := Ato.cellsss_len xcp; show j + 1 ≤ _; omega, by simp; have := Ato.cellsss_len xcp; omega, (by repeat' (first | exact SLe.nil _ | refine SLe.cons rfl ?_ ?_ | exact Le.refl _ | exact Le.own _ _ _ | exact Le.nil _)), (by first | exact MLe.none _ | exact MLe.refl _ | (repeat' (first | exact MLe.nil | exact MLe.refl _ | refine MLe.cons _ ?_ | refine MLe.drop _ ?_)))⟩
    · refine c_cond_t rfl ?_
      refine c_skip ?_
      refine go_code ?_
      refine c_seq ?_
      refine c_block ?_
      refine c_seq ?_
      obtain ⟨s, hxs⟩ := get_some (l := tx) (i := i) (by first | omega | (simp at *; omega))
      have hcs := strs_get hxs
      have hms := List.mem_of_getElem? hxs
      refine c_region ?_
      refine AOps.st 31 rfl rfl rfl (op_index rfl te_24 rfl (.seq _ _) rfl rfl (by assumption) ?_)
      first | (refine AOps.st 32 rfl rfl rfl (op_load_m1 (i := 0) rfl ta_9 rfl rfl rfl ?_)) | (refine AOps.st 32 rfl rfl rfl (op_load_m1 (i := 1) rfl ta_9 rfl rfl rfl ?_)) | (refine AOps.st 32 rfl rfl rfl (op_load_m1 (i := 2) rfl ta_9 rfl rfl rfl ?_)) | (refine AOps.st 32 rfl rfl rfl (op_load_m1 (i := 3) rfl ta_9 rfl rfl rfl ?_)) | (refine AOps.st 32 rfl rfl rfl (op_load_m1 (i := 4) rfl ta_9 rfl rfl rfl ?_)) | (refine AOps.st 32 rfl rfl rfl (op_load_m1 (i := 5) rfl ta_9 rfl rfl rfl ?_)) | (refine AOps.st 32 rfl rfl rfl (op_load_m1 (i := 6) rfl ta_9 rfl rfl rfl ?_)) | (refine AOps.st 32 rfl rfl rfl (op_load_m1 (i := 7) rfl ta_9 rfl rfl rfl ?_)) | (refine AOps.st 32 rfl rfl rfl (op_load_m1 (i := 8) rfl ta_9 rfl rfl rfl ?_)) | (refine AOps.st 32 rfl rfl rfl (op_load_m1 (i := 9) rfl ta_9 rfl rfl rfl ?_)) | (refine AOps.st 32 rfl rfl rfl (op_load_c1 rfl ta_9 rfl rfl ?_))
      refine AOps.st 7 rfl rfl rfl (op_assign rfl rfl ?_)
      refine AOps.nil ?_
      refine go_code ?_
      refine c_region ?_
      refine AOps.st 33 rfl rfl rfl (op_move rfl rfl ?_)
      refine AOps.st 34 rfl rfl rfl (op_move rfl rfl ?_)
      refine AOps.st 35 rfl rfl rfl (op_len_str rfl tu_9 rfl ?_)
      first | (refine AOps.st 36 rfl rfl rfl (op_add rfl rfl rfl (IntWalk.i64_in _ (by omega)) ?_)) | (refine AOps.st 36 rfl rfl rfl (op_add rfl rfl rfl rfl ?_))
      refine AOps.st 5 rfl rfl rfl (op_assign rfl rfl ?_)
      refine AOps.nil ?_
      refine go_blk ?_
      refine go_code ?_
      refine c_region ?_
      refine AOps.st 37 rfl rfl rfl (op_add rfl rfl rfl (IntWalk.i64_in _ (by omega)) ?_)
      refine AOps.st 29 rfl rfl rfl (op_move rfl rfl ?_)
      refine AOps.nil ?_
      refine go_lp ?_
      exact ⟨(i + 1, _), by show i + 1 ≤ _; omega, by simp; omega, (by repeat' (first | exact SLe.nil _ | refine SLe.cons rfl ?_ ?_ | exact Le.refl _ | exact Le.own _ _ _ | exact Le.nil _)), (by first | exact MLe.none _ | exact MLe.refl _ | (repeat' (first | exact MLe.nil | exact MLe.refl _ | refine MLe.cons _ ?_ | refine MLe.drop _ ?_)))⟩
  · refine c_cond_t rfl ?_
    refine c_seq ?_
    refine c_region ?_
    refine AOps.st 4 rfl rfl rfl (op_assign rfl rfl ?_)
    refine AOps.nil ?_
    refine go_code ?_
    refine c_ret ?_
    exact out_tmp rfl rfl (Le.refl _) (by first | exact MLe.none _ | exact MLe.refl _ | (repeat' (first | exact MLe.nil | exact MLe.refl _ | refine MLe.cons _ ?_ | refine MLe.drop _ ?_))) ⟨⟨_, rfl⟩, rfl⟩
end Go.Proofs.Ytadhakcmfkghbaa
