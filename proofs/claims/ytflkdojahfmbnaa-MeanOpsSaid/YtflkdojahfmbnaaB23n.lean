/- An operation on numbers: the program's and the document's. -/
import Derived.Test.YtflkdojahfmbnaaW23
import Derived.Test.YtflkdojahfmbnaaP23
import Derived.Test.YtflkdojahfmbnaaAX
import Derived.Test.YtflkdojahfmbnaaTF
namespace Go.Proofs.Ytflkdojahfmbnaa
open Go.RowKit
theorem PCall.of_callt {P : Program} {f : FuncId} {vs rs : List Value} (he : Enters P f) (h : ∀ w, Calls P f vs.toArray w fun e w' => e = .returned (.tuple rs.toArray) ∧ Below w.heap.size w w') : PCall P f (vs.map AV.val) (.tup (rs.map AV.val)) :=
  (PCall.of_calls he h).weak (by
    rintro v M' ⟨rfl, rfl⟩
    refine ⟨_, _, ?_, MLe.refl _, rfl, rfl⟩
    intro F u hr
    cases hr
    exact .tup (Rels.vals F rs))
theorem AddA_c (a b : Int) : PCall Try.prog 8 [.val (.int .i64 a), .val (.int .i64 b)] (.val (.int .i64 (W63 (a + b)))) :=
  PCall.of_calls (vs := [.int .i64 a, .int .i64 b]) (enters_of Try.func8 (by kernel_rfl) rfl) (fun w => (Add_c a b w).mono (by rintro e w' ⟨rfl, rfl⟩; exact ⟨rfl, Below.refl _ _⟩))
theorem SubA_c (a b : Int) : PCall Try.prog 9 [.val (.int .i64 a), .val (.int .i64 b)] (.val (.int .i64 (W63 (a - b)))) :=
  PCall.of_calls (vs := [.int .i64 a, .int .i64 b]) (enters_of Try.func9 (by kernel_rfl) rfl) (fun w => (Sub_c a b w).mono (by rintro e w' ⟨rfl, rfl⟩; exact ⟨rfl, Below.refl _ _⟩))
theorem MulA_c (a b : Int) : PCall Try.prog 10 [.val (.int .i64 a), .val (.int .i64 b)] (.val (.int .i64 (W63 (a * b)))) :=
  PCall.of_calls (vs := [.int .i64 a, .int .i64 b]) (enters_of Try.func10 (by kernel_rfl) rfl) (fun w => (Mul_c a b w).mono (by rintro e w' ⟨rfl, rfl⟩; exact ⟨rfl, Below.refl _ _⟩))
theorem CmpA_c (a b : Int) : PCall Try.prog 13 [.val (.int .i64 a), .val (.int .i64 b)] (.val (.int .i64 (cmp3 (W63 a) (W63 b)))) :=
  PCall.of_calls (vs := [.int .i64 a, .int .i64 b]) (enters_of Try.func13 (by kernel_rfl) rfl) (fun w => (Cmp_c a b w).mono (by rintro e w' ⟨rfl, rfl⟩; exact ⟨rfl, Below.refl _ _⟩))
theorem RAddA_c (a b : Int) : PCall Try.prog 16 [.val (.int .i64 a), .val (.int .i64 b)] (.val (.int .i64 (W63 (a + b)))) :=
  PCall.of_calls (vs := [.int .i64 a, .int .i64 b]) (enters_of Try.func16 (by kernel_rfl) rfl) (fun w => (RAdd_c a b w).mono (by rintro e w' ⟨rfl, rfl⟩; exact ⟨rfl, Below.refl _ _⟩))
theorem RSubA_c (a b : Int) : PCall Try.prog 17 [.val (.int .i64 a), .val (.int .i64 b)] (.val (.int .i64 (W63 (a - b)))) :=
  PCall.of_calls (vs := [.int .i64 a, .int .i64 b]) (enters_of Try.func17 (by kernel_rfl) rfl) (fun w => (RSub_c a b w).mono (by rintro e w' ⟨rfl, rfl⟩; exact ⟨rfl, Below.refl _ _⟩))
theorem RMulA_c (a b : Int) : PCall Try.prog 18 [.val (.int .i64 a), .val (.int .i64 b)] (.val (.int .i64 (W63 (a * b)))) :=
  PCall.of_calls (vs := [.int .i64 a, .int .i64 b]) (enters_of Try.func18 (by kernel_rfl) rfl) (fun w => (RMul_c a b w).mono (by rintro e w' ⟨rfl, rfl⟩; exact ⟨rfl, Below.refl _ _⟩))
theorem WrapA_c (n : Int) : PCall Try.prog 22 [.val (.int .i64 n)] (.val (.int .i64 (W63 n))) :=
  PCall.of_calls (vs := [.int .i64 n]) (enters_of Try.func22 (by kernel_rfl) rfl) (fun w => (Wrap_c n w).mono (by rintro e w' ⟨rfl, rfl⟩; exact ⟨rfl, Below.refl _ _⟩))
theorem RWrapA_c (n : Int) : PCall Try.prog 15 [.val (.int .i64 n)] (.val (.int .i64 (W63 n))) :=
  PCall.of_calls (vs := [.int .i64 n]) (enters_of Try.func15 (by kernel_rfl) rfl) (fun w => (RWrap_c n w).mono (by rintro e w' ⟨rfl, rfl⟩; exact ⟨rfl, Below.refl _ _⟩))
theorem QuoA_c (a b : Int) : PCall Try.prog 11 [.val (.int .i64 a), .val (.int .i64 b)] (.tup [.val (.int .i64 (quoN a b)), .val (.int .i64 (quoE b))]) := by
  unfold quoN quoE
  split <;> rename_i h
  · exact PCall.of_callt (vs := [.int .i64 a, .int .i64 b]) (rs := [.int .i64 0, .int .i64 4]) (enters_of Try.func11 (by kernel_rfl) rfl) (fun w => (Quo_zero a b w h).mono (by rintro e w' ⟨rfl, rfl⟩; exact ⟨rfl, Below.refl _ _⟩))
  · exact PCall.of_callt (vs := [.int .i64 a, .int .i64 b]) (rs := [.int .i64 _, .int .i64 0]) (enters_of Try.func11 (by kernel_rfl) rfl) (fun w => (Quo_some a b w h).mono (by rintro e w' ⟨rfl, rfl⟩; exact ⟨rfl, Below.refl _ _⟩))
theorem RemA_c (a b : Int) : PCall Try.prog 12 [.val (.int .i64 a), .val (.int .i64 b)] (.tup [.val (.int .i64 (remN a b)), .val (.int .i64 (quoE b))]) := by
  unfold remN quoE
  split <;> rename_i h
  · exact PCall.of_callt (vs := [.int .i64 a, .int .i64 b]) (rs := [.int .i64 0, .int .i64 4]) (enters_of Try.func12 (by kernel_rfl) rfl) (fun w => (Rem_zero a b w h).mono (by rintro e w' ⟨rfl, rfl⟩; exact ⟨rfl, Below.refl _ _⟩))
  · exact PCall.of_callt (vs := [.int .i64 a, .int .i64 b]) (rs := [.int .i64 _, .int .i64 0]) (enters_of Try.func12 (by kernel_rfl) rfl) (fun w => (Rem_some a b w h).mono (by rintro e w' ⟨rfl, rfl⟩; exact ⟨rfl, Below.refl _ _⟩))
theorem RQuoA_c (a b : Int) : PCall Try.prog 14 [.val (.int .i64 a), .val (.int .i64 b)] (.tup [.val (.int .i64 (quoN a b)), .val (.int .i64 (remN a b)), .val (.bool (decide (quoE b = 0)))]) := by
  unfold quoN remN quoE
  split <;> rename_i h
  · exact PCall.of_callt (vs := [.int .i64 a, .int .i64 b]) (rs := [.int .i64 0, .int .i64 0, .bool false]) (enters_of Try.func14 (by kernel_rfl) rfl) (fun w => (RQuo_zero a b w h).mono (by rintro e w' ⟨rfl, rfl⟩; exact ⟨rfl, Below.refl _ _⟩))
  · exact PCall.of_callt (vs := [.int .i64 a, .int .i64 b]) (rs := [.int .i64 _, .int .i64 _, .bool true]) (enters_of Try.func14 (by kernel_rfl) rfl) (fun w => (RQuo_some a b w h).mono (by rintro e w' ⟨rfl, rfl⟩; exact ⟨rfl, Below.refl _ _⟩))
theorem cmp3_zero (x y : Int) : cmp3 x y = 0 ↔ x = y := by unfold cmp3; split <;> (try split) <;> omega
theorem cmp3_neg (x y : Int) : cmp3 x y < 0 ↔ x < y := by unfold cmp3; split <;> (try split) <;> omega
theorem opN_def (op a b : Int) : opN op a b = if op = 1 then W63 (a + b) else if op = 2 then W63 (a - b) else if op = 3 then W63 (a * b) else if op = 4 then quoN a b else if op = 5 then remN a b
  else if op = 6 then (if W63 a = W63 b then 1 else 0) else if op = 7 then (if W63 a < W63 b then 1 else 0) else 0 := rfl
theorem opE_def (op b : Int) : opE op b = if op = 4 ∨ op = 5 then (if quoE b = 0 then 0 else 1) else 0 := rfl
theorem quo_zero {a b : Int} (h : quoE b ≠ 0) : quoN a b = 0 ∧ remN a b = 0 := by unfold quoE at h; unfold quoN remN; split <;> simp_all
set_option maxHeartbeats 4000000 in
set_option maxRecDepth 100000 in
theorem Op_c (op a b : Int) : PCall Try.prog 5 [.val (.int .i64 op), .val (.int .i64 a), .val (.int .i64 b)] (.tup [.val (.int .i64 (opN op a b)), .val (.int .i64 (opE op b))]) := by
  have H1 := AddA_c a b
  have H2 := SubA_c a b
  have H3 := MulA_c a b
  have H4 := QuoA_c a b
  have H5 := RemA_c a b
  have H6 := CmpA_c a b
  have hN := opN_def op a b
  have hE := opE_def op b
  have hZ := @quo_zero a b
  have h6 := cmp3_zero (W63 a) (W63 b)
  have h7 := cmp3_neg (W63 a) (W63 b)
  refine ACall.enter Try.func5 rfl (by kernel_rfl) rfl (Nat.le_of_ble_eq_true rfl) ?_
  refine c_start ?_
  refine c_seq ?_
  refine c_region ?_
  refine AOps.st 6 rfl rfl rfl (op_assign rfl rfl ?_)
  refine AOps.st 7 rfl rfl rfl (op_assign rfl rfl ?_)
  refine AOps.nil ?_
  refine go_code ?_
  refine c_seq ?_
  refine c_region ?_
  refine AOps.st 8 rfl rfl rfl (op_assign rfl rfl ?_)
  refine AOps.nil ?_
  refine go_code ?_
  refine c_seq ?_
  refine c_region ?_
  refine AOps.st 9 rfl rfl rfl (op_assign rfl rfl ?_)
  refine AOps.nil ?_
  refine go_code ?_
  refine c_seq ?_
  refine c_seq ?_
  refine c_region ?_
  refine AOps.st 10 rfl rfl rfl (op_move rfl rfl ?_)
  refine AOps.nil ?_
  refine go_code ?_
  refine c_block ?_
  refine c_seq ?_
  refine c_region ?_
  refine AOps.st 12 rfl rfl rfl (op_eql rfl rfl rfl ?_); intro c12 h12
  refine AOps.st 11 rfl rfl rfl (op_assign rfl rfl ?_)
  refine AOps.nil ?_
  refine go_code ?_
  rcases bool_split h12 with ⟨rfl, g12⟩ | ⟨rfl, g12⟩
  · refine c_cond_f rfl ?_
    refine c_seq ?_
    refine c_region ?_
    refine AOps.st 17 rfl rfl rfl (op_eql rfl rfl rfl ?_); intro c17 h17
    refine AOps.st 16 rfl rfl rfl (op_assign rfl rfl ?_)
    refine AOps.nil ?_
    refine go_code ?_
    rcases bool_split h17 with ⟨rfl, g17⟩ | ⟨rfl, g17⟩
    · refine c_cond_f rfl ?_
      refine c_seq ?_
      refine c_region ?_
      refine AOps.st 22 rfl rfl rfl (op_eql rfl rfl rfl ?_); intro c22 h22
      refine AOps.st 21 rfl rfl rfl (op_assign rfl rfl ?_)
      refine AOps.nil ?_
      refine go_code ?_
      rcases bool_split h22 with ⟨rfl, g22⟩ | ⟨rfl, g22⟩
      · refine c_cond_f rfl ?_
        refine c_seq ?_
        refine c_region ?_
        refine AOps.st 27 rfl rfl rfl (op_eql rfl rfl rfl ?_); intro c27 h27
        refine AOps.st 26 rfl rfl rfl (op_assign rfl rfl ?_)
        refine AOps.nil ?_
        refine go_code ?_
        rcases bool_split h27 with ⟨rfl, g27⟩ | ⟨rfl, g27⟩
        · refine c_cond_f rfl ?_
          refine c_seq ?_
          refine c_region ?_
          refine AOps.st 35 rfl rfl rfl (op_eql rfl rfl rfl ?_); intro c35 h35
          refine AOps.st 34 rfl rfl rfl (op_assign rfl rfl ?_)
          refine AOps.nil ?_
          refine go_code ?_
          rcases bool_split h35 with ⟨rfl, g35⟩ | ⟨rfl, g35⟩
          · refine c_cond_f rfl ?_
            refine c_seq ?_
            refine c_region ?_
            refine AOps.st 43 rfl rfl rfl (op_eql rfl rfl rfl ?_); intro c43 h43
            refine AOps.st 42 rfl rfl rfl (op_assign rfl rfl ?_)
            refine AOps.nil ?_
            refine go_code ?_
            rcases bool_split h43 with ⟨rfl, g43⟩ | ⟨rfl, g43⟩
            · refine c_cond_f rfl ?_
              refine c_seq ?_
              refine c_region ?_
              refine AOps.st 49 rfl rfl rfl (op_eql rfl rfl rfl ?_); intro c49 h49
              refine AOps.st 48 rfl rfl rfl (op_assign rfl rfl ?_)
              refine AOps.nil ?_
              refine go_code ?_
              rcases bool_split h49 with ⟨rfl, g49⟩ | ⟨rfl, g49⟩
              · refine c_cond_f rfl ?_
                refine c_skip ?_
                refine go_blk ?_
                refine go_code ?_
                refine c_seq ?_
                refine c_seq ?_
                refine c_region ?_
                refine AOps.st 54 rfl rfl rfl (op_move rfl rfl ?_)
                refine AOps.st 55 rfl rfl rfl (op_neq rfl rfl rfl ?_); intro c55 h55
                refine AOps.nil ?_
                refine go_code ?_
                rcases bool_split h55 with ⟨rfl, g55⟩ | ⟨rfl, g55⟩
                · refine c_cond_f rfl ?_
                  refine c_skip ?_
                  refine go_code ?_
                  refine c_seq ?_
                  refine c_region ?_
                  refine AOps.st 56 rfl rfl rfl (op_move rfl rfl ?_)
                  refine AOps.st 6 rfl rfl rfl (op_assign rfl rfl ?_)
                  refine AOps.st 7 rfl rfl rfl (op_assign rfl rfl ?_)
                  refine AOps.nil ?_
                  refine go_code ?_
                  refine c_ret ?_
                  exact out_tt rfl rfl rfl (Le.refl _) (by first | exact MLe.none _ | exact MLe.refl _ | (repeat' (first | exact MLe.nil | exact MLe.refl _ | refine MLe.cons _ ?_ | refine MLe.drop _ ?_))) ⟨by clear H1 H2 H3 H4 H5 H6; simp_all, rfl⟩
                · refine c_cond_t rfl ?_
                  refine c_seq ?_
                  refine c_region ?_
                  refine AOps.st 6 rfl rfl rfl (op_assign rfl rfl ?_)
                  refine AOps.st 7 rfl rfl rfl (op_assign rfl rfl ?_)
                  refine AOps.nil ?_
                  refine go_code ?_
                  refine c_ret ?_
                  exact out_tt rfl rfl rfl (Le.refl _) (by first | exact MLe.none _ | exact MLe.refl _ | (repeat' (first | exact MLe.nil | exact MLe.refl _ | refine MLe.cons _ ?_ | refine MLe.drop _ ?_))) ⟨by clear H1 H2 H3 H4 H5 H6; simp_all, rfl⟩
              · refine c_cond_t rfl ?_
                refine c_seq ?_
                refine c_region ?_
                refine AOps.st 50 rfl rfl rfl (op_move rfl rfl ?_)
                refine AOps.st 51 rfl rfl rfl (op_move rfl rfl ?_)
                refine AOps.st 52 rfl rfl rfl (op_callp (xs := [.tmp 50, .tmp 51]) rfl rfl (H6) (by first | exact Les.refl _ | (repeat' (first | exact Les.refl _ | refine Les.cons ?_ ?_ | exact Le.refl _ | exact Le.own _ _ _ | exact Le.nil _ | refine Le.agg ?_))) ?_)
                refine AOps.st 53 rfl rfl rfl (op_lss rfl rfl rfl ?_); intro c53 h53
                refine AOps.nil ?_
                refine go_code ?_
                rcases bool_split h53 with ⟨rfl, g53⟩ | ⟨rfl, g53⟩
                · refine c_cond_f rfl ?_
                  refine c_skip ?_
                  refine go_blk ?_
                  refine go_code ?_
                  refine c_seq ?_
                  refine c_seq ?_
                  refine c_region ?_
                  refine AOps.st 54 rfl rfl rfl (op_move rfl rfl ?_)
                  refine AOps.st 55 rfl rfl rfl (op_neq rfl rfl rfl ?_); intro c55 h55
                  refine AOps.nil ?_
                  refine go_code ?_
                  rcases bool_split h55 with ⟨rfl, g55⟩ | ⟨rfl, g55⟩
                  · refine c_cond_f rfl ?_
                    refine c_skip ?_
                    refine go_code ?_
                    refine c_seq ?_
                    refine c_region ?_
                    refine AOps.st 56 rfl rfl rfl (op_move rfl rfl ?_)
                    refine AOps.st 6 rfl rfl rfl (op_assign rfl rfl ?_)
                    refine AOps.st 7 rfl rfl rfl (op_assign rfl rfl ?_)
                    refine AOps.nil ?_
                    refine go_code ?_
                    refine c_ret ?_
                    exact out_tt rfl rfl rfl (Le.refl _) (by first | exact MLe.none _ | exact MLe.refl _ | (repeat' (first | exact MLe.nil | exact MLe.refl _ | refine MLe.cons _ ?_ | refine MLe.drop _ ?_))) ⟨by clear H1 H2 H3 H4 H5 H6; simp_all, rfl⟩
                  · refine c_cond_t rfl ?_
                    refine c_seq ?_
                    refine c_region ?_
                    refine AOps.st 6 rfl rfl rfl (op_assign rfl rfl ?_)
                    refine AOps.st 7 rfl rfl rfl (op_assign rfl rfl ?_)
                    refine AOps.nil ?_
                    refine go_code ?_
                    refine c_ret ?_
                    exact out_tt rfl rfl rfl (Le.refl _) (by first | exact MLe.none _ | exact MLe.refl _ | (repeat' (first | exact MLe.nil | exact MLe.refl _ | refine MLe.cons _ ?_ | refine MLe.drop _ ?_))) ⟨by clear H1 H2 H3 H4 H5 H6; simp_all, rfl⟩
                · refine c_cond_t rfl ?_
                  refine c_region ?_
                  refine AOps.st 9 rfl rfl rfl (op_assign rfl rfl ?_)
                  refine AOps.nil ?_
                  refine go_blk ?_
                  refine go_code ?_
                  refine c_seq ?_
                  refine c_seq ?_
                  refine c_region ?_
                  refine AOps.st 54 rfl rfl rfl (op_move rfl rfl ?_)
                  refine AOps.st 55 rfl rfl rfl (op_neq rfl rfl rfl ?_); intro c55 h55
                  refine AOps.nil ?_
                  refine go_code ?_
                  rcases bool_split h55 with ⟨rfl, g55⟩ | ⟨rfl, g55⟩
                  · refine c_cond_f rfl ?_
                    refine c_skip ?_
                    refine go_code ?_
                    refine c_seq ?_
                    refine c_region ?_
                    refine AOps.st 56 rfl rfl rfl (op_move rfl rfl ?_)
                    refine AOps.st 6 rfl rfl rfl (op_assign rfl rfl ?_)
                    refine AOps.st 7 rfl rfl rfl (op_assign rfl rfl ?_)
                    refine AOps.nil ?_
                    refine go_code ?_
                    refine c_ret ?_
                    exact out_tt rfl rfl rfl (Le.refl _) (by first | exact MLe.none _ | exact MLe.refl _ | (repeat' (first | exact MLe.nil | exact MLe.refl _ | refine MLe.cons _ ?_ | refine MLe.drop _ ?_))) ⟨by clear H1 H2 H3 H4 H5 H6; simp_all, rfl⟩
                  · refine c_cond_t rfl ?_
                    refine c_seq ?_
                    refine c_region ?_
                    refine AOps.st 6 rfl rfl rfl (op_assign rfl rfl ?_)
                    refine AOps.st 7 rfl rfl rfl (op_assign rfl rfl ?_)
                    refine AOps.nil ?_
                    refine go_code ?_
                    refine c_ret ?_
                    exact out_tt rfl rfl rfl (Le.refl _) (by first | exact MLe.none _ | exact MLe.refl _ | (repeat' (first | exact MLe.nil | exact MLe.refl _ | refine MLe.cons _ ?_ | refine MLe.drop _ ?_))) ⟨by clear H1 H2 H3 H4 H5 H6; simp_all, rfl⟩
            · refine c_cond_t rfl ?_
              refine c_seq ?_
              refine c_region ?_
              refine AOps.st 44 rfl rfl rfl (op_move rfl rfl ?_)
              refine AOps.st 45 rfl rfl rfl (op_move rfl rfl ?_)
              refine AOps.st 46 rfl rfl rfl (op_callp (xs := [.tmp 44, .tmp 45]) rfl rfl (H6) (by first | exact Les.refl _ | (repeat' (first | exact Les.refl _ | refine Les.cons ?_ ?_ | exact Le.refl _ | exact Le.own _ _ _ | exact Le.nil _ | refine Le.agg ?_))) ?_)
              refine AOps.st 47 rfl rfl rfl (op_eql rfl rfl rfl ?_); intro c47 h47
              refine AOps.nil ?_
              refine go_code ?_
              rcases bool_split h47 with ⟨rfl, g47⟩ | ⟨rfl, g47⟩
              · refine c_cond_f rfl ?_
                refine c_skip ?_
                refine go_blk ?_
                refine go_code ?_
                refine c_seq ?_
                refine c_seq ?_
                refine c_region ?_
                refine AOps.st 54 rfl rfl rfl (op_move rfl rfl ?_)
                refine AOps.st 55 rfl rfl rfl (op_neq rfl rfl rfl ?_); intro c55 h55
                refine AOps.nil ?_
                refine go_code ?_
                rcases bool_split h55 with ⟨rfl, g55⟩ | ⟨rfl, g55⟩
                · refine c_cond_f rfl ?_
                  refine c_skip ?_
                  refine go_code ?_
                  refine c_seq ?_
                  refine c_region ?_
                  refine AOps.st 56 rfl rfl rfl (op_move rfl rfl ?_)
                  refine AOps.st 6 rfl rfl rfl (op_assign rfl rfl ?_)
                  refine AOps.st 7 rfl rfl rfl (op_assign rfl rfl ?_)
                  refine AOps.nil ?_
                  refine go_code ?_
                  refine c_ret ?_
                  exact out_tt rfl rfl rfl (Le.refl _) (by first | exact MLe.none _ | exact MLe.refl _ | (repeat' (first | exact MLe.nil | exact MLe.refl _ | refine MLe.cons _ ?_ | refine MLe.drop _ ?_))) ⟨by clear H1 H2 H3 H4 H5 H6; simp_all, rfl⟩
                · refine c_cond_t rfl ?_
                  refine c_seq ?_
                  refine c_region ?_
                  refine AOps.st 6 rfl rfl rfl (op_assign rfl rfl ?_)
                  refine AOps.st 7 rfl rfl rfl (op_assign rfl rfl ?_)
                  refine AOps.nil ?_
                  refine go_code ?_
                  refine c_ret ?_
                  exact out_tt rfl rfl rfl (Le.refl _) (by first | exact MLe.none _ | exact MLe.refl _ | (repeat' (first | exact MLe.nil | exact MLe.refl _ | refine MLe.cons _ ?_ | refine MLe.drop _ ?_))) ⟨by clear H1 H2 H3 H4 H5 H6; simp_all, rfl⟩
              · refine c_cond_t rfl ?_
                refine c_region ?_
                refine AOps.st 9 rfl rfl rfl (op_assign rfl rfl ?_)
                refine AOps.nil ?_
                refine go_blk ?_
                refine go_code ?_
                refine c_seq ?_
                refine c_seq ?_
                refine c_region ?_
                refine AOps.st 54 rfl rfl rfl (op_move rfl rfl ?_)
                refine AOps.st 55 rfl rfl rfl (op_neq rfl rfl rfl ?_); intro c55 h55
                refine AOps.nil ?_
                refine go_code ?_
                rcases bool_split h55 with ⟨rfl, g55⟩ | ⟨rfl, g55⟩
                · refine c_cond_f rfl ?_
                  refine c_skip ?_
                  refine go_code ?_
                  refine c_seq ?_
                  refine c_region ?_
                  refine AOps.st 56 rfl rfl rfl (op_move rfl rfl ?_)
                  refine AOps.st 6 rfl rfl rfl (op_assign rfl rfl ?_)
                  refine AOps.st 7 rfl rfl rfl (op_assign rfl rfl ?_)
                  refine AOps.nil ?_
                  refine go_code ?_
                  refine c_ret ?_
                  exact out_tt rfl rfl rfl (Le.refl _) (by first | exact MLe.none _ | exact MLe.refl _ | (repeat' (first | exact MLe.nil | exact MLe.refl _ | refine MLe.cons _ ?_ | refine MLe.drop _ ?_))) ⟨by clear H1 H2 H3 H4 H5 H6; simp_all, rfl⟩
                · refine c_cond_t rfl ?_
                  refine c_seq ?_
                  refine c_region ?_
                  refine AOps.st 6 rfl rfl rfl (op_assign rfl rfl ?_)
                  refine AOps.st 7 rfl rfl rfl (op_assign rfl rfl ?_)
                  refine AOps.nil ?_
                  refine go_code ?_
                  refine c_ret ?_
                  exact out_tt rfl rfl rfl (Le.refl _) (by first | exact MLe.none _ | exact MLe.refl _ | (repeat' (first | exact MLe.nil | exact MLe.refl _ | refine MLe.cons _ ?_ | refine MLe.drop _ ?_))) ⟨by clear H1 H2 H3 H4 H5 H6; simp_all, rfl⟩
          · refine c_cond_t rfl ?_
            refine c_region ?_
            refine AOps.st 37 rfl rfl rfl (op_move rfl rfl ?_)
            refine AOps.st 38 rfl rfl rfl (op_move rfl rfl ?_)
            refine AOps.st 39 rfl rfl rfl (op_callp (xs := [.tmp 37, .tmp 38]) rfl rfl (H5) (by first | exact Les.refl _ | (repeat' (first | exact Les.refl _ | refine Les.cons ?_ ?_ | exact Le.refl _ | exact Le.own _ _ _ | exact Le.nil _ | refine Le.agg ?_))) ?_)
            refine AOps.st 36 rfl rfl rfl (op_move rfl rfl ?_)
            refine AOps.st 40 rfl rfl rfl (op_extract rfl rfl rfl ?_)
            refine AOps.st 41 rfl rfl rfl (op_extract rfl rfl rfl ?_)
            refine AOps.st 9 rfl rfl rfl (op_assign rfl rfl ?_)
            refine AOps.st 8 rfl rfl rfl (op_assign rfl rfl ?_)
            refine AOps.nil ?_
            refine go_blk ?_
            refine go_code ?_
            refine c_seq ?_
            refine c_seq ?_
            refine c_region ?_
            refine AOps.st 54 rfl rfl rfl (op_move rfl rfl ?_)
            refine AOps.st 55 rfl rfl rfl (op_neq rfl rfl rfl ?_); intro c55 h55
            refine AOps.nil ?_
            refine go_code ?_
            rcases bool_split h55 with ⟨rfl, g55⟩ | ⟨rfl, g55⟩
            · refine c_cond_f rfl ?_
              refine c_skip ?_
              refine go_code ?_
              refine c_seq ?_
              refine c_region ?_
              refine AOps.st 56 rfl rfl rfl (op_move rfl rfl ?_)
              refine AOps.st 6 rfl rfl rfl (op_assign rfl rfl ?_)
              refine AOps.st 7 rfl rfl rfl (op_assign rfl rfl ?_)
              refine AOps.nil ?_
              refine go_code ?_
              refine c_ret ?_
              exact out_tt rfl rfl rfl (Le.refl _) (by first | exact MLe.none _ | exact MLe.refl _ | (repeat' (first | exact MLe.nil | exact MLe.refl _ | refine MLe.cons _ ?_ | refine MLe.drop _ ?_))) ⟨by clear H1 H2 H3 H4 H5 H6; simp_all, rfl⟩
            · refine c_cond_t rfl ?_
              refine c_seq ?_
              refine c_region ?_
              refine AOps.st 6 rfl rfl rfl (op_assign rfl rfl ?_)
              refine AOps.st 7 rfl rfl rfl (op_assign rfl rfl ?_)
              refine AOps.nil ?_
              refine go_code ?_
              refine c_ret ?_
              exact out_tt rfl rfl rfl (Le.refl _) (by first | exact MLe.none _ | exact MLe.refl _ | (repeat' (first | exact MLe.nil | exact MLe.refl _ | refine MLe.cons _ ?_ | refine MLe.drop _ ?_))) ⟨by clear H1 H2 H3 H4 H5 H6; simp_all, rfl⟩
        · refine c_cond_t rfl ?_
          refine c_region ?_
          refine AOps.st 29 rfl rfl rfl (op_move rfl rfl ?_)
          refine AOps.st 30 rfl rfl rfl (op_move rfl rfl ?_)
          refine AOps.st 31 rfl rfl rfl (op_callp (xs := [.tmp 29, .tmp 30]) rfl rfl (H4) (by first | exact Les.refl _ | (repeat' (first | exact Les.refl _ | refine Les.cons ?_ ?_ | exact Le.refl _ | exact Le.own _ _ _ | exact Le.nil _ | refine Le.agg ?_))) ?_)
          refine AOps.st 28 rfl rfl rfl (op_move rfl rfl ?_)
          refine AOps.st 32 rfl rfl rfl (op_extract rfl rfl rfl ?_)
          refine AOps.st 33 rfl rfl rfl (op_extract rfl rfl rfl ?_)
          refine AOps.st 9 rfl rfl rfl (op_assign rfl rfl ?_)
          refine AOps.st 8 rfl rfl rfl (op_assign rfl rfl ?_)
          refine AOps.nil ?_
          refine go_blk ?_
          refine go_code ?_
          refine c_seq ?_
          refine c_seq ?_
          refine c_region ?_
          refine AOps.st 54 rfl rfl rfl (op_move rfl rfl ?_)
          refine AOps.st 55 rfl rfl rfl (op_neq rfl rfl rfl ?_); intro c55 h55
          refine AOps.nil ?_
          refine go_code ?_
          rcases bool_split h55 with ⟨rfl, g55⟩ | ⟨rfl, g55⟩
          · refine c_cond_f rfl ?_
            refine c_skip ?_
            refine go_code ?_
            refine c_seq ?_
            refine c_region ?_
            refine AOps.st 56 rfl rfl rfl (op_move rfl rfl ?_)
            refine AOps.st 6 rfl rfl rfl (op_assign rfl rfl ?_)
            refine AOps.st 7 rfl rfl rfl (op_assign rfl rfl ?_)
            refine AOps.nil ?_
            refine go_code ?_
            refine c_ret ?_
            exact out_tt rfl rfl rfl (Le.refl _) (by first | exact MLe.none _ | exact MLe.refl _ | (repeat' (first | exact MLe.nil | exact MLe.refl _ | refine MLe.cons _ ?_ | refine MLe.drop _ ?_))) ⟨by clear H1 H2 H3 H4 H5 H6; simp_all, rfl⟩
          · refine c_cond_t rfl ?_
            refine c_seq ?_
            refine c_region ?_
            refine AOps.st 6 rfl rfl rfl (op_assign rfl rfl ?_)
            refine AOps.st 7 rfl rfl rfl (op_assign rfl rfl ?_)
            refine AOps.nil ?_
            refine go_code ?_
            refine c_ret ?_
            exact out_tt rfl rfl rfl (Le.refl _) (by first | exact MLe.none _ | exact MLe.refl _ | (repeat' (first | exact MLe.nil | exact MLe.refl _ | refine MLe.cons _ ?_ | refine MLe.drop _ ?_))) ⟨by clear H1 H2 H3 H4 H5 H6; simp_all, rfl⟩
      · refine c_cond_t rfl ?_
        refine c_region ?_
        refine AOps.st 23 rfl rfl rfl (op_move rfl rfl ?_)
        refine AOps.st 24 rfl rfl rfl (op_move rfl rfl ?_)
        refine AOps.st 25 rfl rfl rfl (op_callp (xs := [.tmp 23, .tmp 24]) rfl rfl (H3) (by first | exact Les.refl _ | (repeat' (first | exact Les.refl _ | refine Les.cons ?_ ?_ | exact Le.refl _ | exact Le.own _ _ _ | exact Le.nil _ | refine Le.agg ?_))) ?_)
        refine AOps.st 9 rfl rfl rfl (op_assign rfl rfl ?_)
        refine AOps.nil ?_
        refine go_blk ?_
        refine go_code ?_
        refine c_seq ?_
        refine c_seq ?_
        refine c_region ?_
        refine AOps.st 54 rfl rfl rfl (op_move rfl rfl ?_)
        refine AOps.st 55 rfl rfl rfl (op_neq rfl rfl rfl ?_); intro c55 h55
        refine AOps.nil ?_
        refine go_code ?_
        rcases bool_split h55 with ⟨rfl, g55⟩ | ⟨rfl, g55⟩
        · refine c_cond_f rfl ?_
          refine c_skip ?_
          refine go_code ?_
          refine c_seq ?_
          refine c_region ?_
          refine AOps.st 56 rfl rfl rfl (op_move rfl rfl ?_)
          refine AOps.st 6 rfl rfl rfl (op_assign rfl rfl ?_)
          refine AOps.st 7 rfl rfl rfl (op_assign rfl rfl ?_)
          refine AOps.nil ?_
          refine go_code ?_
          refine c_ret ?_
          exact out_tt rfl rfl rfl (Le.refl _) (by first | exact MLe.none _ | exact MLe.refl _ | (repeat' (first | exact MLe.nil | exact MLe.refl _ | refine MLe.cons _ ?_ | refine MLe.drop _ ?_))) ⟨by clear H1 H2 H3 H4 H5 H6; simp_all, rfl⟩
        · refine c_cond_t rfl ?_
          refine c_seq ?_
          refine c_region ?_
          refine AOps.st 6 rfl rfl rfl (op_assign rfl rfl ?_)
          refine AOps.st 7 rfl rfl rfl (op_assign rfl rfl ?_)
          refine AOps.nil ?_
          refine go_code ?_
          refine c_ret ?_
          exact out_tt rfl rfl rfl (Le.refl _) (by first | exact MLe.none _ | exact MLe.refl _ | (repeat' (first | exact MLe.nil | exact MLe.refl _ | refine MLe.cons _ ?_ | refine MLe.drop _ ?_))) ⟨by clear H1 H2 H3 H4 H5 H6; simp_all, rfl⟩
    · refine c_cond_t rfl ?_
      refine c_region ?_
      refine AOps.st 18 rfl rfl rfl (op_move rfl rfl ?_)
      refine AOps.st 19 rfl rfl rfl (op_move rfl rfl ?_)
      refine AOps.st 20 rfl rfl rfl (op_callp (xs := [.tmp 18, .tmp 19]) rfl rfl (H2) (by first | exact Les.refl _ | (repeat' (first | exact Les.refl _ | refine Les.cons ?_ ?_ | exact Le.refl _ | exact Le.own _ _ _ | exact Le.nil _ | refine Le.agg ?_))) ?_)
      refine AOps.st 9 rfl rfl rfl (op_assign rfl rfl ?_)
      refine AOps.nil ?_
      refine go_blk ?_
      refine go_code ?_
      refine c_seq ?_
      refine c_seq ?_
      refine c_region ?_
      refine AOps.st 54 rfl rfl rfl (op_move rfl rfl ?_)
      refine AOps.st 55 rfl rfl rfl (op_neq rfl rfl rfl ?_); intro c55 h55
      refine AOps.nil ?_
      refine go_code ?_
      rcases bool_split h55 with ⟨rfl, g55⟩ | ⟨rfl, g55⟩
      · refine c_cond_f rfl ?_
        refine c_skip ?_
        refine go_code ?_
        refine c_seq ?_
        refine c_region ?_
        refine AOps.st 56 rfl rfl rfl (op_move rfl rfl ?_)
        refine AOps.st 6 rfl rfl rfl (op_assign rfl rfl ?_)
        refine AOps.st 7 rfl rfl rfl (op_assign rfl rfl ?_)
        refine AOps.nil ?_
        refine go_code ?_
        refine c_ret ?_
        exact out_tt rfl rfl rfl (Le.refl _) (by first | exact MLe.none _ | exact MLe.refl _ | (repeat' (first | exact MLe.nil | exact MLe.refl _ | refine MLe.cons _ ?_ | refine MLe.drop _ ?_))) ⟨by clear H1 H2 H3 H4 H5 H6; simp_all, rfl⟩
      · refine c_cond_t rfl ?_
        refine c_seq ?_
        refine c_region ?_
        refine AOps.st 6 rfl rfl rfl (op_assign rfl rfl ?_)
        refine AOps.st 7 rfl rfl rfl (op_assign rfl rfl ?_)
        refine AOps.nil ?_
        refine go_code ?_
        refine c_ret ?_
        exact out_tt rfl rfl rfl (Le.refl _) (by first | exact MLe.none _ | exact MLe.refl _ | (repeat' (first | exact MLe.nil | exact MLe.refl _ | refine MLe.cons _ ?_ | refine MLe.drop _ ?_))) ⟨by clear H1 H2 H3 H4 H5 H6; simp_all, rfl⟩
  · refine c_cond_t rfl ?_
    refine c_region ?_
    refine AOps.st 13 rfl rfl rfl (op_move rfl rfl ?_)
    refine AOps.st 14 rfl rfl rfl (op_move rfl rfl ?_)
    refine AOps.st 15 rfl rfl rfl (op_callp (xs := [.tmp 13, .tmp 14]) rfl rfl (H1) (by first | exact Les.refl _ | (repeat' (first | exact Les.refl _ | refine Les.cons ?_ ?_ | exact Le.refl _ | exact Le.own _ _ _ | exact Le.nil _ | refine Le.agg ?_))) ?_)
    refine AOps.st 9 rfl rfl rfl (op_assign rfl rfl ?_)
    refine AOps.nil ?_
    refine go_blk ?_
    refine go_code ?_
    refine c_seq ?_
    refine c_seq ?_
    refine c_region ?_
    refine AOps.st 54 rfl rfl rfl (op_move rfl rfl ?_)
    refine AOps.st 55 rfl rfl rfl (op_neq rfl rfl rfl ?_); intro c55 h55
    refine AOps.nil ?_
    refine go_code ?_
    rcases bool_split h55 with ⟨rfl, g55⟩ | ⟨rfl, g55⟩
    · refine c_cond_f rfl ?_
      refine c_skip ?_
      refine go_code ?_
      refine c_seq ?_
      refine c_region ?_
      refine AOps.st 56 rfl rfl rfl (op_move rfl rfl ?_)
      refine AOps.st 6 rfl rfl rfl (op_assign rfl rfl ?_)
      refine AOps.st 7 rfl rfl rfl (op_assign rfl rfl ?_)
      refine AOps.nil ?_
      refine go_code ?_
      refine c_ret ?_
      exact out_tt rfl rfl rfl (Le.refl _) (by first | exact MLe.none _ | exact MLe.refl _ | (repeat' (first | exact MLe.nil | exact MLe.refl _ | refine MLe.cons _ ?_ | refine MLe.drop _ ?_))) ⟨by clear H1 H2 H3 H4 H5 H6; simp_all, rfl⟩
    · refine c_cond_t rfl ?_
      refine c_seq ?_
      refine c_region ?_
      refine AOps.st 6 rfl rfl rfl (op_assign rfl rfl ?_)
      refine AOps.st 7 rfl rfl rfl (op_assign rfl rfl ?_)
      refine AOps.nil ?_
      refine go_code ?_
      refine c_ret ?_
      exact out_tt rfl rfl rfl (Le.refl _) (by first | exact MLe.none _ | exact MLe.refl _ | (repeat' (first | exact MLe.nil | exact MLe.refl _ | refine MLe.cons _ ?_ | refine MLe.drop _ ?_))) ⟨by clear H1 H2 H3 H4 H5 H6; simp_all, rfl⟩
set_option maxHeartbeats 4000000 in
set_option maxRecDepth 100000 in
theorem rOp_c (op a b : Int) : PCall Try.prog 6 [.val (.int .i64 op), .val (.int .i64 a), .val (.int .i64 b)] (.tup [.val (.int .i64 (opN op a b)), .val (.bool (decide (opE op b = 0)))]) := by
  have H1 := RAddA_c a b
  have H2 := RSubA_c a b
  have H3 := RMulA_c a b
  have H4 := RQuoA_c a b
  have H5 := RWrapA_c a
  have H6 := RWrapA_c b
  have hN := opN_def op a b
  have hE := opE_def op b
  refine ACall.enter Try.func6 rfl (by kernel_rfl) rfl (Nat.le_of_ble_eq_true rfl) ?_
  refine c_start ?_
  refine c_seq ?_
  refine c_region ?_
  refine AOps.st 6 rfl rfl rfl (op_assign rfl rfl ?_)
  refine AOps.st 7 rfl rfl rfl (op_assign rfl rfl ?_)
  refine AOps.nil ?_
  refine go_code ?_
  refine c_seq ?_
  refine c_region ?_
  refine AOps.st 14 rfl rfl rfl (op_move rfl rfl ?_)
  refine AOps.st 15 rfl rfl rfl (op_move rfl rfl ?_)
  refine AOps.st 16 rfl rfl rfl (op_callp (xs := [.tmp 14, .tmp 15]) rfl rfl (H4) (by first | exact Les.refl _ | (repeat' (first | exact Les.refl _ | refine Les.cons ?_ ?_ | exact Le.refl _ | exact Le.own _ _ _ | exact Le.nil _ | refine Le.agg ?_))) ?_)
  refine AOps.st 13 rfl rfl rfl (op_move rfl rfl ?_)
  refine AOps.st 17 rfl rfl rfl (op_extract rfl rfl rfl ?_)
  refine AOps.st 18 rfl rfl rfl (op_extract rfl rfl rfl ?_)
  refine AOps.st 19 rfl rfl rfl (op_extract rfl rfl rfl ?_)
  refine AOps.st 8 rfl rfl rfl (op_assign rfl rfl ?_)
  refine AOps.st 9 rfl rfl rfl (op_assign rfl rfl ?_)
  refine AOps.st 10 rfl rfl rfl (op_assign rfl rfl ?_)
  refine AOps.nil ?_
  refine go_code ?_
  refine c_seq ?_
  refine c_region ?_
  refine AOps.st 20 rfl rfl rfl (op_move rfl rfl ?_)
  refine AOps.st 21 rfl rfl rfl (op_callp (xs := [.tmp 20]) rfl rfl (H5) (by first | exact Les.refl _ | (repeat' (first | exact Les.refl _ | refine Les.cons ?_ ?_ | exact Le.refl _ | exact Le.own _ _ _ | exact Le.nil _ | refine Le.agg ?_))) ?_)
  refine AOps.st 11 rfl rfl rfl (op_assign rfl rfl ?_)
  refine AOps.nil ?_
  refine go_code ?_
  refine c_seq ?_
  refine c_region ?_
  refine AOps.st 22 rfl rfl rfl (op_move rfl rfl ?_)
  refine AOps.st 23 rfl rfl rfl (op_callp (xs := [.tmp 22]) rfl rfl (H6) (by first | exact Les.refl _ | (repeat' (first | exact Les.refl _ | refine Les.cons ?_ ?_ | exact Le.refl _ | exact Le.own _ _ _ | exact Le.nil _ | refine Le.agg ?_))) ?_)
  refine AOps.st 12 rfl rfl rfl (op_assign rfl rfl ?_)
  refine AOps.nil ?_
  refine go_code ?_
  refine c_seq ?_
  refine c_seq ?_
  refine c_region ?_
  refine AOps.st 24 rfl rfl rfl (op_move rfl rfl ?_)
  refine AOps.nil ?_
  refine go_code ?_
  refine c_block ?_
  refine c_seq ?_
  refine c_region ?_
  refine AOps.st 26 rfl rfl rfl (op_eql rfl rfl rfl ?_); intro c26 h26
  refine AOps.st 25 rfl rfl rfl (op_assign rfl rfl ?_)
  refine AOps.nil ?_
  refine go_code ?_
  rcases bool_split h26 with ⟨rfl, g26⟩ | ⟨rfl, g26⟩
  · refine c_cond_f rfl ?_
    refine c_seq ?_
    refine c_region ?_
    refine AOps.st 31 rfl rfl rfl (op_eql rfl rfl rfl ?_); intro c31 h31
    refine AOps.st 30 rfl rfl rfl (op_assign rfl rfl ?_)
    refine AOps.nil ?_
    refine go_code ?_
    rcases bool_split h31 with ⟨rfl, g31⟩ | ⟨rfl, g31⟩
    · refine c_cond_f rfl ?_
      refine c_seq ?_
      refine c_region ?_
      refine AOps.st 36 rfl rfl rfl (op_eql rfl rfl rfl ?_); intro c36 h36
      refine AOps.st 35 rfl rfl rfl (op_assign rfl rfl ?_)
      refine AOps.nil ?_
      refine go_code ?_
      rcases bool_split h36 with ⟨rfl, g36⟩ | ⟨rfl, g36⟩
      · refine c_cond_f rfl ?_
        refine c_seq ?_
        refine c_region ?_
        refine AOps.st 41 rfl rfl rfl (op_eql rfl rfl rfl ?_); intro c41 h41
        refine AOps.st 40 rfl rfl rfl (op_assign rfl rfl ?_)
        refine AOps.nil ?_
        refine go_code ?_
        rcases bool_split h41 with ⟨rfl, g41⟩ | ⟨rfl, g41⟩
        · refine c_cond_f rfl ?_
          refine c_seq ?_
          refine c_region ?_
          refine AOps.st 45 rfl rfl rfl (op_eql rfl rfl rfl ?_); intro c45 h45
          refine AOps.st 44 rfl rfl rfl (op_assign rfl rfl ?_)
          refine AOps.nil ?_
          refine go_code ?_
          rcases bool_split h45 with ⟨rfl, g45⟩ | ⟨rfl, g45⟩
          · refine c_cond_f rfl ?_
            refine c_seq ?_
            refine c_region ?_
            refine AOps.st 49 rfl rfl rfl (op_eql rfl rfl rfl ?_); intro c49 h49
            refine AOps.st 48 rfl rfl rfl (op_assign rfl rfl ?_)
            refine AOps.nil ?_
            refine go_code ?_
            rcases bool_split h49 with ⟨rfl, g49⟩ | ⟨rfl, g49⟩
            · refine c_cond_f rfl ?_
              refine c_seq ?_
              refine c_region ?_
              refine AOps.st 54 rfl rfl rfl (op_eql rfl rfl rfl ?_); intro c54 h54
              refine AOps.st 53 rfl rfl rfl (op_assign rfl rfl ?_)
              refine AOps.nil ?_
              refine go_code ?_
              rcases bool_split h54 with ⟨rfl, g54⟩ | ⟨rfl, g54⟩
              · refine c_cond_f rfl ?_
                refine c_skip ?_
                refine go_blk ?_
                refine go_code ?_
                refine c_seq ?_
                refine c_region ?_
                refine AOps.st 6 rfl rfl rfl (op_assign rfl rfl ?_)
                refine AOps.st 7 rfl rfl rfl (op_assign rfl rfl ?_)
                refine AOps.nil ?_
                refine go_code ?_
                refine c_ret ?_
                exact out_tt rfl rfl rfl (Le.refl _) (by first | exact MLe.none _ | exact MLe.refl _ | (repeat' (first | exact MLe.nil | exact MLe.refl _ | refine MLe.cons _ ?_ | refine MLe.drop _ ?_))) ⟨by clear H1 H2 H3 H4 H5 H6; simp_all, rfl⟩
              · refine c_cond_t rfl ?_
                refine c_seq ?_
                refine c_region ?_
                refine AOps.st 55 rfl rfl rfl (op_move rfl rfl ?_)
                refine AOps.st 56 rfl rfl rfl (op_move rfl rfl ?_)
                refine AOps.st 57 rfl rfl rfl (op_lss rfl rfl rfl ?_); intro c57 h57
                refine AOps.nil ?_
                refine go_code ?_
                rcases bool_split h57 with ⟨rfl, g57⟩ | ⟨rfl, g57⟩
                · refine c_cond_f rfl ?_
                  refine c_skip ?_
                  refine go_blk ?_
                  refine go_code ?_
                  refine c_seq ?_
                  refine c_region ?_
                  refine AOps.st 6 rfl rfl rfl (op_assign rfl rfl ?_)
                  refine AOps.st 7 rfl rfl rfl (op_assign rfl rfl ?_)
                  refine AOps.nil ?_
                  refine go_code ?_
                  refine c_ret ?_
                  exact out_tt rfl rfl rfl (Le.refl _) (by first | exact MLe.none _ | exact MLe.refl _ | (repeat' (first | exact MLe.nil | exact MLe.refl _ | refine MLe.cons _ ?_ | refine MLe.drop _ ?_))) ⟨by clear H1 H2 H3 H4 H5 H6; simp_all, rfl⟩
                · refine c_cond_t rfl ?_
                  refine c_seq ?_
                  refine c_region ?_
                  refine AOps.st 6 rfl rfl rfl (op_assign rfl rfl ?_)
                  refine AOps.st 7 rfl rfl rfl (op_assign rfl rfl ?_)
                  refine AOps.nil ?_
                  refine go_code ?_
                  refine c_ret ?_
                  exact out_tt rfl rfl rfl (Le.refl _) (by first | exact MLe.none _ | exact MLe.refl _ | (repeat' (first | exact MLe.nil | exact MLe.refl _ | refine MLe.cons _ ?_ | refine MLe.drop _ ?_))) ⟨by clear H1 H2 H3 H4 H5 H6; simp_all, rfl⟩
            · refine c_cond_t rfl ?_
              refine c_seq ?_
              refine c_region ?_
              refine AOps.st 50 rfl rfl rfl (op_move rfl rfl ?_)
              refine AOps.st 51 rfl rfl rfl (op_move rfl rfl ?_)
              refine AOps.st 52 rfl rfl rfl (op_eql rfl rfl rfl ?_); intro c52 h52
              refine AOps.nil ?_
              refine go_code ?_
              rcases bool_split h52 with ⟨rfl, g52⟩ | ⟨rfl, g52⟩
              · refine c_cond_f rfl ?_
                refine c_skip ?_
                refine go_blk ?_
                refine go_code ?_
                refine c_seq ?_
                refine c_region ?_
                refine AOps.st 6 rfl rfl rfl (op_assign rfl rfl ?_)
                refine AOps.st 7 rfl rfl rfl (op_assign rfl rfl ?_)
                refine AOps.nil ?_
                refine go_code ?_
                refine c_ret ?_
                exact out_tt rfl rfl rfl (Le.refl _) (by first | exact MLe.none _ | exact MLe.refl _ | (repeat' (first | exact MLe.nil | exact MLe.refl _ | refine MLe.cons _ ?_ | refine MLe.drop _ ?_))) ⟨by clear H1 H2 H3 H4 H5 H6; simp_all, rfl⟩
              · refine c_cond_t rfl ?_
                refine c_seq ?_
                refine c_region ?_
                refine AOps.st 6 rfl rfl rfl (op_assign rfl rfl ?_)
                refine AOps.st 7 rfl rfl rfl (op_assign rfl rfl ?_)
                refine AOps.nil ?_
                refine go_code ?_
                refine c_ret ?_
                exact out_tt rfl rfl rfl (Le.refl _) (by first | exact MLe.none _ | exact MLe.refl _ | (repeat' (first | exact MLe.nil | exact MLe.refl _ | refine MLe.cons _ ?_ | refine MLe.drop _ ?_))) ⟨by clear H1 H2 H3 H4 H5 H6; simp_all, rfl⟩
          · refine c_cond_t rfl ?_
            refine c_seq ?_
            refine c_region ?_
            refine AOps.st 46 rfl rfl rfl (op_move rfl rfl ?_)
            refine AOps.st 47 rfl rfl rfl (op_move rfl rfl ?_)
            refine AOps.st 6 rfl rfl rfl (op_assign rfl rfl ?_)
            refine AOps.st 7 rfl rfl rfl (op_assign rfl rfl ?_)
            refine AOps.nil ?_
            refine go_code ?_
            refine c_ret ?_
            exact out_tt rfl rfl rfl (Le.refl _) (by first | exact MLe.none _ | exact MLe.refl _ | (repeat' (first | exact MLe.nil | exact MLe.refl _ | refine MLe.cons _ ?_ | refine MLe.drop _ ?_))) ⟨by clear H1 H2 H3 H4 H5 H6; simp_all, rfl⟩
        · refine c_cond_t rfl ?_
          refine c_seq ?_
          refine c_region ?_
          refine AOps.st 42 rfl rfl rfl (op_move rfl rfl ?_)
          refine AOps.st 43 rfl rfl rfl (op_move rfl rfl ?_)
          refine AOps.st 6 rfl rfl rfl (op_assign rfl rfl ?_)
          refine AOps.st 7 rfl rfl rfl (op_assign rfl rfl ?_)
          refine AOps.nil ?_
          refine go_code ?_
          refine c_ret ?_
          exact out_tt rfl rfl rfl (Le.refl _) (by first | exact MLe.none _ | exact MLe.refl _ | (repeat' (first | exact MLe.nil | exact MLe.refl _ | refine MLe.cons _ ?_ | refine MLe.drop _ ?_))) ⟨by clear H1 H2 H3 H4 H5 H6; simp_all, rfl⟩
      · refine c_cond_t rfl ?_
        refine c_seq ?_
        refine c_region ?_
        refine AOps.st 37 rfl rfl rfl (op_move rfl rfl ?_)
        refine AOps.st 38 rfl rfl rfl (op_move rfl rfl ?_)
        refine AOps.st 39 rfl rfl rfl (op_callp (xs := [.tmp 37, .tmp 38]) rfl rfl (H3) (by first | exact Les.refl _ | (repeat' (first | exact Les.refl _ | refine Les.cons ?_ ?_ | exact Le.refl _ | exact Le.own _ _ _ | exact Le.nil _ | refine Le.agg ?_))) ?_)
        refine AOps.st 6 rfl rfl rfl (op_assign rfl rfl ?_)
        refine AOps.st 7 rfl rfl rfl (op_assign rfl rfl ?_)
        refine AOps.nil ?_
        refine go_code ?_
        refine c_ret ?_
        exact out_tt rfl rfl rfl (Le.refl _) (by first | exact MLe.none _ | exact MLe.refl _ | (repeat' (first | exact MLe.nil | exact MLe.refl _ | refine MLe.cons _ ?_ | refine MLe.drop _ ?_))) ⟨by clear H1 H2 H3 H4 H5 H6; simp_all, rfl⟩
    · refine c_cond_t rfl ?_
      refine c_seq ?_
      refine c_region ?_
      refine AOps.st 32 rfl rfl rfl (op_move rfl rfl ?_)
      refine AOps.st 33 rfl rfl rfl (op_move rfl rfl ?_)
      refine AOps.st 34 rfl rfl rfl (op_callp (xs := [.tmp 32, .tmp 33]) rfl rfl (H2) (by first | exact Les.refl _ | (repeat' (first | exact Les.refl _ | refine Les.cons ?_ ?_ | exact Le.refl _ | exact Le.own _ _ _ | exact Le.nil _ | refine Le.agg ?_))) ?_)
      refine AOps.st 6 rfl rfl rfl (op_assign rfl rfl ?_)
      refine AOps.st 7 rfl rfl rfl (op_assign rfl rfl ?_)
      refine AOps.nil ?_
      refine go_code ?_
      refine c_ret ?_
      exact out_tt rfl rfl rfl (Le.refl _) (by first | exact MLe.none _ | exact MLe.refl _ | (repeat' (first | exact MLe.nil | exact MLe.refl _ | refine MLe.cons _ ?_ | refine MLe.drop _ ?_))) ⟨by clear H1 H2 H3 H4 H5 H6; simp_all, rfl⟩
  · refine c_cond_t rfl ?_
    refine c_seq ?_
    refine c_region ?_
    refine AOps.st 27 rfl rfl rfl (op_move rfl rfl ?_)
    refine AOps.st 28 rfl rfl rfl (op_move rfl rfl ?_)
    refine AOps.st 29 rfl rfl rfl (op_callp (xs := [.tmp 27, .tmp 28]) rfl rfl (H1) (by first | exact Les.refl _ | (repeat' (first | exact Les.refl _ | refine Les.cons ?_ ?_ | exact Le.refl _ | exact Le.own _ _ _ | exact Le.nil _ | refine Le.agg ?_))) ?_)
    refine AOps.st 6 rfl rfl rfl (op_assign rfl rfl ?_)
    refine AOps.st 7 rfl rfl rfl (op_assign rfl rfl ?_)
    refine AOps.nil ?_
    refine go_code ?_
    refine c_ret ?_
    exact out_tt rfl rfl rfl (Le.refl _) (by first | exact MLe.none _ | exact MLe.refl _ | (repeat' (first | exact MLe.nil | exact MLe.refl _ | refine MLe.cons _ ?_ | refine MLe.drop _ ?_))) ⟨by clear H1 H2 H3 H4 H5 H6; simp_all, rfl⟩
end Go.Proofs.Ytflkdojahfmbnaa
