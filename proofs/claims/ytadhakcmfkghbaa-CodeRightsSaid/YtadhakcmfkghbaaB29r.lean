/- code.within, of, ends, checker.atom, places, number, fix, ins -/
import Derived.Test.YtadhakcmfkghbaaB29e
import Derived.Test.YtadhakcmfkghbaaPB
import Derived.Test.YtadhakcmfkghbaaB05s
namespace Go.Proofs.Ytadhakcmfkghbaa
open Go.RowKit
abbrev ckCells (c : Cd) (f : Cf) (fr to : Int) (ps : List Pm) : List AV := c.cells ++ (f.cells ++ [.val (.int .i64 fr), .val (.int .i64 to), .seq 9 (Pm.cellss ps)])
set_option maxHeartbeats 4000000 in
set_option maxRecDepth 100000 in
theorem within_c (n top : Int) : BCall Try.prog 13 [.val (.int .i64 n), .val (.int .i64 top)] (0 ≤ n ∧ n < top) := by
  refine ACall.enter Try.func13 rfl (by kernel_rfl) rfl (Nat.le_of_ble_eq_true rfl) ?_
  refine c_start ?_
  refine c_seq ?_
  refine c_region ?_
  refine AOps.st 4 rfl rfl rfl (op_assign rfl rfl ?_)
  refine AOps.nil ?_
  refine go_code ?_
  refine c_seq ?_
  refine c_bool 4 (0 ≤ n ∧ n < top) ?_ _ _ rfl ?_
  · skip
    refine AOps.st 5 rfl rfl rfl (op_move rfl rfl ?_)
    refine AOps.st 6 rfl rfl rfl (op_geq rfl rfl rfl ?_); intro c6 h6
    refine AOps.st 7 rfl rfl rfl (op_move rfl rfl ?_)
    rcases bool_split h6 with ⟨rfl, g6⟩ | ⟨rfl, g6⟩
    · skip
      refine AOps.gf 8 rfl rfl rfl rfl rfl ?_
      refine AOps.gf 9 rfl rfl rfl rfl rfl ?_
      refine AOps.gf 10 rfl rfl rfl rfl rfl ?_
      refine AOps.st 11 rfl rfl rfl (op_pick rfl rfl rfl ?_)
      refine AOps.st 4 rfl rfl rfl (op_assign rfl rfl ?_)
      refine AOps.nil ?_
      refine BoolQ.mk rfl ?_ (by repeat' (first | exact SLe.wo _ _ | exact SLe.refl _ | refine SLe.fresh rfl ?_)) (by first | exact MLe.none _ | exact MLe.refl _ | (repeat' (first | exact MLe.nil | exact MLe.refl _ | refine MLe.cons _ ?_ | refine MLe.drop _ ?_)))
      first | (simp_all; done) | (simp_all; omega)
    · skip
      refine AOps.gt 8 rfl rfl rfl rfl rfl (op_move rfl rfl ?_)
      refine AOps.gt 9 rfl rfl rfl rfl rfl (op_move rfl rfl ?_)
      refine AOps.gt 10 rfl rfl rfl rfl rfl (op_lss rfl rfl rfl ?_); intro c10 h10
      refine AOps.st 11 rfl rfl rfl (op_pick rfl rfl rfl ?_)
      refine AOps.st 4 rfl rfl rfl (op_assign rfl rfl ?_)
      refine AOps.nil ?_
      refine BoolQ.mk rfl ?_ (by repeat' (first | exact SLe.wo _ _ | exact SLe.refl _ | refine SLe.fresh rfl ?_)) (by first | exact MLe.none _ | exact MLe.refl _ | (repeat' (first | exact MLe.nil | exact MLe.refl _ | refine MLe.cons _ ?_ | refine MLe.drop _ ?_)))
      simp_all; done
  intro c4 h4
  refine go_code ?_
  refine c_ret ?_
  exact out_tmp rfl rfl (Le.refl _) (by first | exact MLe.none _ | exact MLe.refl _ | (repeat' (first | exact MLe.nil | exact MLe.refl _ | refine MLe.cons _ ?_ | refine MLe.drop _ ?_))) ⟨⟨_, h4, rfl⟩, rfl⟩
set_option maxHeartbeats 4000000 in
set_option maxRecDepth 100000 in
theorem short_c (s : ByteArray) : BCall Try.prog 15 ([] ++ [.val (.string s)] ++ []) (s.size ≤ 1048576) := by
  refine ACall.enter Try.func15 rfl (by kernel_rfl) rfl (Nat.le_of_ble_eq_true rfl) ?_
  refine c_start ?_
  refine c_seq ?_
  refine c_region ?_
  refine AOps.st 2 rfl rfl rfl (op_assign rfl rfl ?_)
  refine AOps.nil ?_
  refine go_code ?_
  refine c_seq ?_
  refine c_region ?_
  refine AOps.st 3 rfl rfl rfl (op_move rfl rfl ?_)
  refine AOps.st 4 rfl rfl rfl (op_len_str rfl tu_9 rfl ?_)
  refine AOps.st 5 rfl rfl rfl (op_leq rfl rfl rfl ?_); intro c5 h5
  refine AOps.st 2 rfl rfl rfl (op_assign rfl rfl ?_)
  refine AOps.nil ?_
  refine go_code ?_
  refine c_ret ?_
  exact out_tmp rfl rfl (Le.refl _) (by first | exact MLe.none _ | exact MLe.refl _ | (repeat' (first | exact MLe.nil | exact MLe.refl _ | refine MLe.cons _ ?_ | refine MLe.drop _ ?_))) ⟨⟨_, h5.trans (by omega), rfl⟩, rfl⟩
set_option maxHeartbeats 4000000 in
set_option maxRecDepth 100000 in
theorem ends_c (i : Is) : BCall Try.prog 19 [.agg i.cells] (i.op = 6 ∨ i.op = 7 ∨ i.op = 14 ∨ i.op = 15) := by
  obtain ⟨op, a, b, n, ar, fs, cp⟩ := i
  show BCall _ _ _ (op = 6 ∨ op = 7 ∨ op = 14 ∨ op = 15)
  refine ACall.enter Try.func19 rfl (by kernel_rfl) rfl (Nat.le_of_ble_eq_true rfl) ?_
  refine c_start ?_
  refine c_seq ?_
  refine c_region ?_
  refine AOps.st 1 rfl rfl rfl (op_boxc (cs' := [_, _, _, _, _, _, _]) rfl rfl rfl rfl ?_)
  refine AOps.st 2 rfl rfl rfl (op_assign rfl rfl ?_)
  refine AOps.nil ?_
  refine go_code ?_
  refine c_seq ?_
  refine c_bool 2 (op = 6 ∨ op = 7 ∨ op = 14 ∨ op = 15) ?_ _ _ rfl ?_
  · skip
    refine AOps.st 3 rfl rfl rfl (op_fieldAddr_c rfl tf_46_0 rfl rfl ?_)
    refine AOps.st 4 rfl rfl rfl (op_load_c1 rfl ta_3 rfl rfl ?_)
    refine AOps.st 5 rfl rfl rfl (op_eql rfl rfl rfl ?_); intro c5 h5
    refine AOps.st 6 rfl rfl rfl (op_move rfl rfl ?_)
    rcases bool_split h5 with ⟨rfl, g5⟩ | ⟨rfl, g5⟩
    · skip
      refine AOps.gt 7 rfl rfl rfl rfl rfl (op_fieldAddr_c rfl tf_46_0 rfl rfl ?_)
      refine AOps.gt 8 rfl rfl rfl rfl rfl (op_load_c1 rfl ta_3 rfl rfl ?_)
      refine AOps.gt 9 rfl rfl rfl rfl rfl (op_eql rfl rfl rfl ?_); intro c9 h9
      refine AOps.st 10 rfl rfl rfl (op_pick rfl rfl rfl ?_)
      refine AOps.st 11 rfl rfl rfl (op_move rfl rfl ?_)
      rcases bool_split h9 with ⟨rfl, g9⟩ | ⟨rfl, g9⟩
      · skip
        refine AOps.gt 12 rfl rfl rfl rfl rfl (op_fieldAddr_c rfl tf_46_0 rfl rfl ?_)
        refine AOps.gt 13 rfl rfl rfl rfl rfl (op_load_c1 rfl ta_3 rfl rfl ?_)
        refine AOps.gt 14 rfl rfl rfl rfl rfl (op_eql rfl rfl rfl ?_); intro c14 h14
        refine AOps.st 15 rfl rfl rfl (op_pick rfl rfl rfl ?_)
        refine AOps.st 16 rfl rfl rfl (op_move rfl rfl ?_)
        rcases bool_split h14 with ⟨rfl, g14⟩ | ⟨rfl, g14⟩
        · skip
          refine AOps.gt 17 rfl rfl rfl rfl rfl (op_fieldAddr_c rfl tf_46_0 rfl rfl ?_)
          refine AOps.gt 18 rfl rfl rfl rfl rfl (op_load_c1 rfl ta_3 rfl rfl ?_)
          refine AOps.gt 19 rfl rfl rfl rfl rfl (op_eql rfl rfl rfl ?_); intro c19 h19
          refine AOps.st 20 rfl rfl rfl (op_pick rfl rfl rfl ?_)
          refine AOps.st 2 rfl rfl rfl (op_assign rfl rfl ?_)
          refine AOps.nil ?_
          refine BoolQ.mk rfl ?_ (by repeat' (first | exact SLe.wo _ _ | exact SLe.refl _ | refine SLe.fresh rfl ?_)) (by first | exact MLe.none _ | exact MLe.refl _ | (repeat' (first | exact MLe.nil | exact MLe.refl _ | refine MLe.cons _ ?_ | refine MLe.drop _ ?_)))
          simp_all; done
        · skip
          refine AOps.gf 17 rfl rfl rfl rfl rfl ?_
          refine AOps.gf 18 rfl rfl rfl rfl rfl ?_
          refine AOps.gf 19 rfl rfl rfl rfl rfl ?_
          refine AOps.st 20 rfl rfl rfl (op_pick rfl rfl rfl ?_)
          refine AOps.st 2 rfl rfl rfl (op_assign rfl rfl ?_)
          refine AOps.nil ?_
          refine BoolQ.mk rfl ?_ (by repeat' (first | exact SLe.wo _ _ | exact SLe.refl _ | refine SLe.fresh rfl ?_)) (by first | exact MLe.none _ | exact MLe.refl _ | (repeat' (first | exact MLe.nil | exact MLe.refl _ | refine MLe.cons _ ?_ | refine MLe.drop _ ?_)))
          simp_all; done
      · skip
        refine AOps.gf 12 rfl rfl rfl rfl rfl ?_
        refine AOps.gf 13 rfl rfl rfl rfl rfl ?_
        refine AOps.gf 14 rfl rfl rfl rfl rfl ?_
        refine AOps.st 15 rfl rfl rfl (op_pick rfl rfl rfl ?_)
        refine AOps.st 16 rfl rfl rfl (op_move rfl rfl ?_)
        refine AOps.gf 17 rfl rfl rfl rfl rfl ?_
        refine AOps.gf 18 rfl rfl rfl rfl rfl ?_
        refine AOps.gf 19 rfl rfl rfl rfl rfl ?_
        refine AOps.st 20 rfl rfl rfl (op_pick rfl rfl rfl ?_)
        refine AOps.st 2 rfl rfl rfl (op_assign rfl rfl ?_)
        refine AOps.nil ?_
        refine BoolQ.mk rfl ?_ (by repeat' (first | exact SLe.wo _ _ | exact SLe.refl _ | refine SLe.fresh rfl ?_)) (by first | exact MLe.none _ | exact MLe.refl _ | (repeat' (first | exact MLe.nil | exact MLe.refl _ | refine MLe.cons _ ?_ | refine MLe.drop _ ?_)))
        simp_all; done
    · skip
      refine AOps.gf 7 rfl rfl rfl rfl rfl ?_
      refine AOps.gf 8 rfl rfl rfl rfl rfl ?_
      refine AOps.gf 9 rfl rfl rfl rfl rfl ?_
      refine AOps.st 10 rfl rfl rfl (op_pick rfl rfl rfl ?_)
      refine AOps.st 11 rfl rfl rfl (op_move rfl rfl ?_)
      refine AOps.gf 12 rfl rfl rfl rfl rfl ?_
      refine AOps.gf 13 rfl rfl rfl rfl rfl ?_
      refine AOps.gf 14 rfl rfl rfl rfl rfl ?_
      refine AOps.st 15 rfl rfl rfl (op_pick rfl rfl rfl ?_)
      refine AOps.st 16 rfl rfl rfl (op_move rfl rfl ?_)
      refine AOps.gf 17 rfl rfl rfl rfl rfl ?_
      refine AOps.gf 18 rfl rfl rfl rfl rfl ?_
      refine AOps.gf 19 rfl rfl rfl rfl rfl ?_
      refine AOps.st 20 rfl rfl rfl (op_pick rfl rfl rfl ?_)
      refine AOps.st 2 rfl rfl rfl (op_assign rfl rfl ?_)
      refine AOps.nil ?_
      refine BoolQ.mk rfl ?_ (by repeat' (first | exact SLe.wo _ _ | exact SLe.refl _ | refine SLe.fresh rfl ?_)) (by first | exact MLe.none _ | exact MLe.refl _ | (repeat' (first | exact MLe.nil | exact MLe.refl _ | refine MLe.cons _ ?_ | refine MLe.drop _ ?_)))
      simp_all; done
  intro c2 h2
  refine go_code ?_
  refine c_ret ?_
  exact out_tmp rfl rfl (Le.refl _) (by first | exact MLe.none _ | exact MLe.refl _ | (repeat' (first | exact MLe.nil | exact MLe.refl _ | refine MLe.cons _ ?_ | refine MLe.drop _ ?_))) ⟨⟨_, h2, rfl⟩, rfl⟩
set_option maxHeartbeats 4000000 in
set_option maxRecDepth 100000 in
theorem of_c (op : Int) : PCall Try.prog 41 [.val (.int .i64 op)] (.tup [.agg [.val (.bool (opA op)), .val (.bool (opB op)), .val (.bool (opN op)), .val (.bool (opS op)), .val (.int .i64 (opG op))], .val (.bool (opOk op))]) := by
  refine ACall.enter Try.func41 rfl (by kernel_rfl) rfl (Nat.le_of_ble_eq_true rfl) ?_
  refine c_start ?_
  refine c_seq ?_
  refine c_region ?_
  refine AOps.st 2 rfl rfl rfl (op_alloce (cs' := [_, _, _, _, _]) rfl tz_91 rfl rfl ?_); intro b2
  refine AOps.st 3 rfl rfl rfl (op_assign rfl rfl ?_)
  refine AOps.nil ?_
  refine go_code ?_
  refine c_seq ?_
  refine c_region ?_
  refine AOps.st 4 rfl rfl rfl (op_alloce (cs' := [_, _, _, _, _]) rfl tz_91 rfl rfl ?_); intro b4
  refine AOps.nil ?_
  refine go_code ?_
  refine c_seq ?_
  refine c_seq ?_
  refine c_region ?_
  refine AOps.st 5 rfl rfl rfl (op_move rfl rfl ?_)
  refine AOps.nil ?_
  refine go_code ?_
  refine c_block ?_
  refine c_seq ?_
  refine c_block ?_
  refine c_seq ?_
  refine c_block ?_
  refine c_seq ?_
  refine c_block ?_
  refine c_seq ?_
  refine c_block ?_
  refine c_seq ?_
  refine c_block ?_
  refine c_seq ?_
  refine c_block ?_
  refine c_seq ?_
  refine c_block ?_
  refine c_seq ?_
  refine c_block ?_
  refine c_seq ?_
  refine c_block ?_
  refine c_seq ?_
  refine c_block ?_
  refine c_seq ?_
  refine c_block ?_
  refine c_seq ?_
  refine c_block ?_
  refine c_seq ?_
  refine c_block ?_
  refine c_seq ?_
  refine c_seq ?_
  refine c_seq ?_
  refine c_region ?_
  refine AOps.st 7 rfl rfl rfl (op_eql rfl rfl rfl ?_); intro c7 h7
  refine AOps.st 6 rfl rfl rfl (op_assign rfl rfl ?_)
  refine AOps.nil ?_
  refine go_code ?_
  rcases bool_split h7 with ⟨rfl, g7⟩ | ⟨rfl, g7⟩
  · refine c_cond_f rfl ?_
    refine c_skip ?_
    refine go_code ?_
    refine c_seq ?_
    refine c_seq ?_
    refine c_seq ?_
    refine c_region ?_
    refine AOps.st 9 rfl rfl rfl (op_eql rfl rfl rfl ?_); intro c9 h9
    refine AOps.st 8 rfl rfl rfl (op_assign rfl rfl ?_)
    refine AOps.nil ?_
    refine go_code ?_
    rcases bool_split h9 with ⟨rfl, g9⟩ | ⟨rfl, g9⟩
    · refine c_cond_f rfl ?_
      refine c_region ?_
      refine AOps.st 10 rfl rfl rfl (op_eql rfl rfl rfl ?_); intro c10 h10
      refine AOps.st 8 rfl rfl rfl (op_assign rfl rfl ?_)
      refine AOps.nil ?_
      refine go_code ?_
      rcases bool_split h10 with ⟨rfl, g10⟩ | ⟨rfl, g10⟩
      · refine c_cond_f rfl ?_
        refine c_skip ?_
        refine go_code ?_
        refine c_seq ?_
        refine c_seq ?_
        refine c_region ?_
        refine AOps.st 12 rfl rfl rfl (op_eql rfl rfl rfl ?_); intro c12 h12
        refine AOps.st 11 rfl rfl rfl (op_assign rfl rfl ?_)
        refine AOps.nil ?_
        refine go_code ?_
        rcases bool_split h12 with ⟨rfl, g12⟩ | ⟨rfl, g12⟩
        · refine c_cond_f rfl ?_
          refine c_skip ?_
          refine go_code ?_
          refine c_seq ?_
          refine c_seq ?_
          refine c_seq ?_
          refine c_region ?_
          refine AOps.st 14 rfl rfl rfl (op_eql rfl rfl rfl ?_); intro c14 h14
          refine AOps.st 13 rfl rfl rfl (op_assign rfl rfl ?_)
          refine AOps.nil ?_
          refine go_code ?_
          rcases bool_split h14 with ⟨rfl, g14⟩ | ⟨rfl, g14⟩
          · refine c_cond_f rfl ?_
            refine c_region ?_
            refine AOps.st 15 rfl rfl rfl (op_eql rfl rfl rfl ?_); intro c15 h15
            refine AOps.st 13 rfl rfl rfl (op_assign rfl rfl ?_)
            refine AOps.nil ?_
            refine go_code ?_
            rcases bool_split h15 with ⟨rfl, g15⟩ | ⟨rfl, g15⟩
            · refine c_cond_f rfl ?_
              refine c_skip ?_
              refine go_code ?_
              refine c_seq ?_
              refine c_seq ?_
              refine c_region ?_
              refine AOps.st 17 rfl rfl rfl (op_eql rfl rfl rfl ?_); intro c17 h17
              refine AOps.st 16 rfl rfl rfl (op_assign rfl rfl ?_)
              refine AOps.nil ?_
              refine go_code ?_
              rcases bool_split h17 with ⟨rfl, g17⟩ | ⟨rfl, g17⟩
              · refine c_cond_f rfl ?_
                refine c_skip ?_
                refine go_code ?_
                refine c_seq ?_
                refine c_seq ?_
                refine c_seq ?_
                refine c_region ?_
                refine AOps.st 19 rfl rfl rfl (op_eql rfl rfl rfl ?_); intro c19 h19
                refine AOps.st 18 rfl rfl rfl (op_assign rfl rfl ?_)
                refine AOps.nil ?_
                refine go_code ?_
                rcases bool_split h19 with ⟨rfl, g19⟩ | ⟨rfl, g19⟩
                · refine c_cond_f rfl ?_
                  refine c_region ?_
                  refine AOps.st 20 rfl rfl rfl (op_eql rfl rfl rfl ?_); intro c20 h20
                  refine AOps.st 18 rfl rfl rfl (op_assign rfl rfl ?_)
                  refine AOps.nil ?_
                  refine go_code ?_
                  rcases bool_split h20 with ⟨rfl, g20⟩ | ⟨rfl, g20⟩
                  · refine c_cond_f rfl ?_
                    refine c_skip ?_
                    refine go_code ?_
                    refine c_seq ?_
                    refine c_seq ?_
                    refine c_region ?_
                    refine AOps.st 22 rfl rfl rfl (op_eql rfl rfl rfl ?_); intro c22 h22
                    refine AOps.st 21 rfl rfl rfl (op_assign rfl rfl ?_)
                    refine AOps.nil ?_
                    refine go_code ?_
                    rcases bool_split h22 with ⟨rfl, g22⟩ | ⟨rfl, g22⟩
                    · refine c_cond_f rfl ?_
                      refine c_skip ?_
                      refine go_code ?_
                      refine c_seq ?_
                      refine c_seq ?_
                      refine c_region ?_
                      refine AOps.st 24 rfl rfl rfl (op_eql rfl rfl rfl ?_); intro c24 h24
                      refine AOps.st 23 rfl rfl rfl (op_assign rfl rfl ?_)
                      refine AOps.nil ?_
                      refine go_code ?_
                      rcases bool_split h24 with ⟨rfl, g24⟩ | ⟨rfl, g24⟩
                      · refine c_cond_f rfl ?_
                        refine c_skip ?_
                        refine go_code ?_
                        refine c_seq ?_
                        refine c_seq ?_
                        refine c_region ?_
                        refine AOps.st 26 rfl rfl rfl (op_eql rfl rfl rfl ?_); intro c26 h26
                        refine AOps.st 25 rfl rfl rfl (op_assign rfl rfl ?_)
                        refine AOps.nil ?_
                        refine go_code ?_
                        rcases bool_split h26 with ⟨rfl, g26⟩ | ⟨rfl, g26⟩
                        · refine c_cond_f rfl ?_
                          refine c_skip ?_
                          refine go_code ?_
                          refine c_seq ?_
                          refine c_seq ?_
                          refine c_region ?_
                          refine AOps.st 28 rfl rfl rfl (op_eql rfl rfl rfl ?_); intro c28 h28
                          refine AOps.st 27 rfl rfl rfl (op_assign rfl rfl ?_)
                          refine AOps.nil ?_
                          refine go_code ?_
                          rcases bool_split h28 with ⟨rfl, g28⟩ | ⟨rfl, g28⟩
                          · refine c_cond_f rfl ?_
                            refine c_skip ?_
                            refine go_code ?_
                            refine c_seq ?_
                            refine c_seq ?_
                            refine c_region ?_
                            refine AOps.st 30 rfl rfl rfl (op_eql rfl rfl rfl ?_); intro c30 h30
                            refine AOps.st 29 rfl rfl rfl (op_assign rfl rfl ?_)
                            refine AOps.nil ?_
                            refine go_code ?_
                            rcases bool_split h30 with ⟨rfl, g30⟩ | ⟨rfl, g30⟩
                            · refine c_cond_f rfl ?_
                              refine c_skip ?_
                              refine go_code ?_
                              refine c_seq ?_
                              refine c_region ?_
                              refine AOps.st 32 rfl rfl rfl (op_eql rfl rfl rfl ?_); intro c32 h32
                              refine AOps.st 31 rfl rfl rfl (op_assign rfl rfl ?_)
                              refine AOps.nil ?_
                              refine go_code ?_
                              rcases bool_split h32 with ⟨rfl, g32⟩ | ⟨rfl, g32⟩
                              · refine c_cond_f rfl ?_
                                refine c_skip ?_
                                refine go_code ?_
                                refine c_exit ?_
                                refine x_past (by simp) ?_
                                refine x_code ?_
                                refine x_past (by simp) ?_
                                refine x_code ?_
                                refine x_past (by simp) ?_
                                refine x_code ?_
                                refine x_past (by simp) ?_
                                refine x_code ?_
                                refine x_past (by simp) ?_
                                refine x_code ?_
                                refine x_past (by simp) ?_
                                refine x_code ?_
                                refine x_past (by simp) ?_
                                refine x_code ?_
                                refine x_past (by simp) ?_
                                refine x_code ?_
                                refine x_past (by simp) ?_
                                refine x_code ?_
                                refine x_past (by simp) ?_
                                refine x_code ?_
                                refine x_past (by simp) ?_
                                refine x_code ?_
                                refine x_past (by simp) ?_
                                refine x_code ?_
                                refine x_here ?_
                                refine go_code ?_
                                refine c_seq ?_
                                refine c_seq ?_
                                refine c_region ?_
                                refine AOps.st 64 rfl rfl rfl (op_load_m (cs' := [_, _, _, _, _]) (i := 0) rfl ta_91 rfl rfl rfl rfl ?_)
                                first | (refine AOps.st0 rfl rfl (op_store (cs' := [_, _, _, _, _]) (i := 0) rfl ts_91 rfl rfl rfl rfl rfl (Nat.le_of_ble_eq_true rfl) rfl ?_)) | (refine AOps.st0 rfl rfl (op_store (cs' := [_, _, _, _, _]) (i := 1) rfl ts_91 rfl rfl rfl rfl rfl (Nat.le_of_ble_eq_true rfl) rfl ?_))
                                refine AOps.st 3 rfl rfl rfl (op_assign rfl rfl ?_)
                                refine AOps.nil ?_
                                refine go_code ?_
                                refine c_ret ?_
                                refine out_ct (i := 1) rfl rfl rfl rfl ta_91 rfl (Le.tup (Les.cons (Le.agg (Les.cons (Le.beq ?_) (Les.cons (Le.beq ?_) (Les.cons (Le.beq ?_) (Les.cons (Le.beq ?_) (Les.cons (Le.ieq ?_) (Les.refl _))))))) (Les.cons (Le.beq ?_) (Les.refl _)))) (by first | exact MLe.none _ | exact MLe.refl _ | (repeat' (first | exact MLe.nil | exact MLe.refl _ | refine MLe.cons _ ?_ | refine MLe.drop _ ?_))) ⟨rfl, rfl⟩
                                all_goals first | (subst_vars; rfl) | (simp only [opA, opB, opN, opS, opG, opOk]; first | (symm; rw [decide_eq_false_iff_not]; omega) | (symm; rw [decide_eq_true_iff]; omega) | (repeat' split) <;> omega)
                              · refine c_cond_t rfl ?_
                                refine c_exit ?_
                                refine x_code ?_
                                refine x_past (by simp) ?_
                                refine x_code ?_
                                refine x_past (by simp) ?_
                                refine x_code ?_
                                refine x_past (by simp) ?_
                                refine x_code ?_
                                refine x_past (by simp) ?_
                                refine x_code ?_
                                refine x_past (by simp) ?_
                                refine x_code ?_
                                refine x_past (by simp) ?_
                                refine x_code ?_
                                refine x_past (by simp) ?_
                                refine x_code ?_
                                refine x_past (by simp) ?_
                                refine x_code ?_
                                refine x_past (by simp) ?_
                                refine x_code ?_
                                refine x_past (by simp) ?_
                                refine x_code ?_
                                refine x_past (by simp) ?_
                                refine x_code ?_
                                refine x_here ?_
                                refine go_code ?_
                                refine c_exit ?_
                                refine x_past (by simp) ?_
                                refine x_code ?_
                                refine x_here ?_
                                refine go_code ?_
                                refine c_seq ?_
                                refine c_region ?_
                                refine AOps.st 65 rfl rfl rfl (op_load_m (cs' := [_, _, _, _, _]) (i := 0) rfl ta_91 rfl rfl rfl rfl ?_)
                                first | (refine AOps.st0 rfl rfl (op_store (cs' := [_, _, _, _, _]) (i := 0) rfl ts_91 rfl rfl rfl rfl rfl (Nat.le_of_ble_eq_true rfl) rfl ?_)) | (refine AOps.st0 rfl rfl (op_store (cs' := [_, _, _, _, _]) (i := 1) rfl ts_91 rfl rfl rfl rfl rfl (Nat.le_of_ble_eq_true rfl) rfl ?_))
                                refine AOps.st 3 rfl rfl rfl (op_assign rfl rfl ?_)
                                refine AOps.nil ?_
                                refine go_code ?_
                                refine c_ret ?_
                                refine out_ct (i := 1) rfl rfl rfl rfl ta_91 rfl (Le.tup (Les.cons (Le.agg (Les.cons (Le.beq ?_) (Les.cons (Le.beq ?_) (Les.cons (Le.beq ?_) (Les.cons (Le.beq ?_) (Les.cons (Le.ieq ?_) (Les.refl _))))))) (Les.cons (Le.beq ?_) (Les.refl _)))) (by first | exact MLe.none _ | exact MLe.refl _ | (repeat' (first | exact MLe.nil | exact MLe.refl _ | refine MLe.cons _ ?_ | refine MLe.drop _ ?_))) ⟨rfl, rfl⟩
                                all_goals first | (subst_vars; rfl) | (simp only [opA, opB, opN, opS, opG, opOk]; first | (symm; rw [decide_eq_false_iff_not]; omega) | (symm; rw [decide_eq_true_iff]; omega) | (repeat' split) <;> omega)
                            · refine c_cond_t rfl ?_
                              refine c_exit ?_
                              refine x_code ?_
                              refine x_code ?_
                              refine x_past (by simp) ?_
                              refine x_code ?_
                              refine x_past (by simp) ?_
                              refine x_code ?_
                              refine x_past (by simp) ?_
                              refine x_code ?_
                              refine x_past (by simp) ?_
                              refine x_code ?_
                              refine x_past (by simp) ?_
                              refine x_code ?_
                              refine x_past (by simp) ?_
                              refine x_code ?_
                              refine x_past (by simp) ?_
                              refine x_code ?_
                              refine x_past (by simp) ?_
                              refine x_code ?_
                              refine x_past (by simp) ?_
                              refine x_code ?_
                              refine x_past (by simp) ?_
                              refine x_code ?_
                              refine x_here ?_
                              refine go_code ?_
                              refine c_seq ?_
                              refine c_region ?_
                              refine AOps.st 63 rfl rfl rfl (op_fieldAddr_m rfl tf_91_1 rfl ?_)
                              refine AOps.st0 rfl rfl (op_store (cs' := [_, _, _, _, _]) (i := 0) rfl ts_4 rfl rfl rfl rfl rfl (Nat.le_of_ble_eq_true rfl) rfl ?_)
                              refine AOps.nil ?_
                              refine go_code ?_
                              refine c_exit ?_
                              refine x_past (by simp) ?_
                              refine x_code ?_
                              refine x_past (by simp) ?_
                              refine x_code ?_
                              refine x_here ?_
                              refine go_code ?_
                              refine c_seq ?_
                              refine c_region ?_
                              refine AOps.st 65 rfl rfl rfl (op_load_m (cs' := [_, _, _, _, _]) (i := 0) rfl ta_91 rfl rfl rfl rfl ?_)
                              first | (refine AOps.st0 rfl rfl (op_store (cs' := [_, _, _, _, _]) (i := 0) rfl ts_91 rfl rfl rfl rfl rfl (Nat.le_of_ble_eq_true rfl) rfl ?_)) | (refine AOps.st0 rfl rfl (op_store (cs' := [_, _, _, _, _]) (i := 1) rfl ts_91 rfl rfl rfl rfl rfl (Nat.le_of_ble_eq_true rfl) rfl ?_))
                              refine AOps.st 3 rfl rfl rfl (op_assign rfl rfl ?_)
                              refine AOps.nil ?_
                              refine go_code ?_
                              refine c_ret ?_
                              refine out_ct (i := 1) rfl rfl rfl rfl ta_91 rfl (Le.tup (Les.cons (Le.agg (Les.cons (Le.beq ?_) (Les.cons (Le.beq ?_) (Les.cons (Le.beq ?_) (Les.cons (Le.beq ?_) (Les.cons (Le.ieq ?_) (Les.refl _))))))) (Les.cons (Le.beq ?_) (Les.refl _)))) (by first | exact MLe.none _ | exact MLe.refl _ | (repeat' (first | exact MLe.nil | exact MLe.refl _ | refine MLe.cons _ ?_ | refine MLe.drop _ ?_))) ⟨rfl, rfl⟩
                              all_goals first | (subst_vars; rfl) | (simp only [opA, opB, opN, opS, opG, opOk]; first | (symm; rw [decide_eq_false_iff_not]; omega) | (symm; rw [decide_eq_true_iff]; omega) | (repeat' split) <;> omega)
                          · refine c_cond_t rfl ?_
                            refine c_exit ?_
                            refine x_code ?_
                            refine x_code ?_
                            refine x_past (by simp) ?_
                            refine x_code ?_
                            refine x_past (by simp) ?_
                            refine x_code ?_
                            refine x_past (by simp) ?_
                            refine x_code ?_
                            refine x_past (by simp) ?_
                            refine x_code ?_
                            refine x_past (by simp) ?_
                            refine x_code ?_
                            refine x_past (by simp) ?_
                            refine x_code ?_
                            refine x_past (by simp) ?_
                            refine x_code ?_
                            refine x_past (by simp) ?_
                            refine x_code ?_
                            refine x_past (by simp) ?_
                            refine x_code ?_
                            refine x_here ?_
                            refine go_code ?_
                            refine c_seq ?_
                            refine c_region ?_
                            refine AOps.st 60 rfl rfl rfl (op_fieldAddr_m rfl tf_91_2 rfl ?_)
                            refine AOps.st0 rfl rfl (op_store (cs' := [_, _, _, _, _]) (i := 0) rfl ts_4 rfl rfl rfl rfl rfl (Nat.le_of_ble_eq_true rfl) rfl ?_)
                            refine AOps.st 61 rfl rfl rfl (op_fieldAddr_m rfl tf_91_3 rfl ?_)
                            refine AOps.st0 rfl rfl (op_store (cs' := [_, _, _, _, _]) (i := 0) rfl ts_4 rfl rfl rfl rfl rfl (Nat.le_of_ble_eq_true rfl) rfl ?_)
                            refine AOps.st 62 rfl rfl rfl (op_fieldAddr_m rfl tf_91_1 rfl ?_)
                            refine AOps.st0 rfl rfl (op_store (cs' := [_, _, _, _, _]) (i := 0) rfl ts_4 rfl rfl rfl rfl rfl (Nat.le_of_ble_eq_true rfl) rfl ?_)
                            refine AOps.nil ?_
                            refine go_code ?_
                            refine c_exit ?_
                            refine x_past (by simp) ?_
                            refine x_code ?_
                            refine x_past (by simp) ?_
                            refine x_code ?_
                            refine x_past (by simp) ?_
                            refine x_code ?_
                            refine x_here ?_
                            refine go_code ?_
                            refine c_seq ?_
                            refine c_region ?_
                            refine AOps.st 65 rfl rfl rfl (op_load_m (cs' := [_, _, _, _, _]) (i := 0) rfl ta_91 rfl rfl rfl rfl ?_)
                            first | (refine AOps.st0 rfl rfl (op_store (cs' := [_, _, _, _, _]) (i := 0) rfl ts_91 rfl rfl rfl rfl rfl (Nat.le_of_ble_eq_true rfl) rfl ?_)) | (refine AOps.st0 rfl rfl (op_store (cs' := [_, _, _, _, _]) (i := 1) rfl ts_91 rfl rfl rfl rfl rfl (Nat.le_of_ble_eq_true rfl) rfl ?_))
                            refine AOps.st 3 rfl rfl rfl (op_assign rfl rfl ?_)
                            refine AOps.nil ?_
                            refine go_code ?_
                            refine c_ret ?_
                            refine out_ct (i := 1) rfl rfl rfl rfl ta_91 rfl (Le.tup (Les.cons (Le.agg (Les.cons (Le.beq ?_) (Les.cons (Le.beq ?_) (Les.cons (Le.beq ?_) (Les.cons (Le.beq ?_) (Les.cons (Le.ieq ?_) (Les.refl _))))))) (Les.cons (Le.beq ?_) (Les.refl _)))) (by first | exact MLe.none _ | exact MLe.refl _ | (repeat' (first | exact MLe.nil | exact MLe.refl _ | refine MLe.cons _ ?_ | refine MLe.drop _ ?_))) ⟨rfl, rfl⟩
                            all_goals first | (subst_vars; rfl) | (simp only [opA, opB, opN, opS, opG, opOk]; first | (symm; rw [decide_eq_false_iff_not]; omega) | (symm; rw [decide_eq_true_iff]; omega) | (repeat' split) <;> omega)
                        · refine c_cond_t rfl ?_
                          refine c_exit ?_
                          refine x_code ?_
                          refine x_code ?_
                          refine x_past (by simp) ?_
                          refine x_code ?_
                          refine x_past (by simp) ?_
                          refine x_code ?_
                          refine x_past (by simp) ?_
                          refine x_code ?_
                          refine x_past (by simp) ?_
                          refine x_code ?_
                          refine x_past (by simp) ?_
                          refine x_code ?_
                          refine x_past (by simp) ?_
                          refine x_code ?_
                          refine x_past (by simp) ?_
                          refine x_code ?_
                          refine x_past (by simp) ?_
                          refine x_code ?_
                          refine x_here ?_
                          refine go_code ?_
                          refine c_seq ?_
                          refine c_region ?_
                          refine AOps.st 59 rfl rfl rfl (op_fieldAddr_m rfl tf_91_2 rfl ?_)
                          refine AOps.st0 rfl rfl (op_store (cs' := [_, _, _, _, _]) (i := 0) rfl ts_4 rfl rfl rfl rfl rfl (Nat.le_of_ble_eq_true rfl) rfl ?_)
                          refine AOps.nil ?_
                          refine go_code ?_
                          refine c_exit ?_
                          refine x_past (by simp) ?_
                          refine x_code ?_
                          refine x_past (by simp) ?_
                          refine x_code ?_
                          refine x_past (by simp) ?_
                          refine x_code ?_
                          refine x_past (by simp) ?_
                          refine x_code ?_
                          refine x_here ?_
                          refine go_code ?_
                          refine c_seq ?_
                          refine c_region ?_
                          refine AOps.st 65 rfl rfl rfl (op_load_m (cs' := [_, _, _, _, _]) (i := 0) rfl ta_91 rfl rfl rfl rfl ?_)
                          first | (refine AOps.st0 rfl rfl (op_store (cs' := [_, _, _, _, _]) (i := 0) rfl ts_91 rfl rfl rfl rfl rfl (Nat.le_of_ble_eq_true rfl) rfl ?_)) | (refine AOps.st0 rfl rfl (op_store (cs' := [_, _, _, _, _]) (i := 1) rfl ts_91 rfl rfl rfl rfl rfl (Nat.le_of_ble_eq_true rfl) rfl ?_))
                          refine AOps.st 3 rfl rfl rfl (op_assign rfl rfl ?_)
                          refine AOps.nil ?_
                          refine go_code ?_
                          refine c_ret ?_
                          refine out_ct (i := 1) rfl rfl rfl rfl ta_91 rfl (Le.tup (Les.cons (Le.agg (Les.cons (Le.beq ?_) (Les.cons (Le.beq ?_) (Les.cons (Le.beq ?_) (Les.cons (Le.beq ?_) (Les.cons (Le.ieq ?_) (Les.refl _))))))) (Les.cons (Le.beq ?_) (Les.refl _)))) (by first | exact MLe.none _ | exact MLe.refl _ | (repeat' (first | exact MLe.nil | exact MLe.refl _ | refine MLe.cons _ ?_ | refine MLe.drop _ ?_))) ⟨rfl, rfl⟩
                          all_goals first | (subst_vars; rfl) | (simp only [opA, opB, opN, opS, opG, opOk]; first | (symm; rw [decide_eq_false_iff_not]; omega) | (symm; rw [decide_eq_true_iff]; omega) | (repeat' split) <;> omega)
                      · refine c_cond_t rfl ?_
                        refine c_exit ?_
                        refine x_code ?_
                        refine x_code ?_
                        refine x_past (by simp) ?_
                        refine x_code ?_
                        refine x_past (by simp) ?_
                        refine x_code ?_
                        refine x_past (by simp) ?_
                        refine x_code ?_
                        refine x_past (by simp) ?_
                        refine x_code ?_
                        refine x_past (by simp) ?_
                        refine x_code ?_
                        refine x_past (by simp) ?_
                        refine x_code ?_
                        refine x_past (by simp) ?_
                        refine x_code ?_
                        refine x_here ?_
                        refine go_code ?_
                        refine c_seq ?_
                        refine c_region ?_
                        refine AOps.st 58 rfl rfl rfl (op_fieldAddr_m rfl tf_91_0 rfl ?_)
                        refine AOps.st0 rfl rfl (op_store (cs' := [_, _, _, _, _]) (i := 0) rfl ts_4 rfl rfl rfl rfl rfl (Nat.le_of_ble_eq_true rfl) rfl ?_)
                        refine AOps.nil ?_
                        refine go_code ?_
                        refine c_exit ?_
                        refine x_past (by simp) ?_
                        refine x_code ?_
                        refine x_past (by simp) ?_
                        refine x_code ?_
                        refine x_past (by simp) ?_
                        refine x_code ?_
                        refine x_past (by simp) ?_
                        refine x_code ?_
                        refine x_past (by simp) ?_
                        refine x_code ?_
                        refine x_here ?_
                        refine go_code ?_
                        refine c_seq ?_
                        refine c_region ?_
                        refine AOps.st 65 rfl rfl rfl (op_load_m (cs' := [_, _, _, _, _]) (i := 0) rfl ta_91 rfl rfl rfl rfl ?_)
                        first | (refine AOps.st0 rfl rfl (op_store (cs' := [_, _, _, _, _]) (i := 0) rfl ts_91 rfl rfl rfl rfl rfl (Nat.le_of_ble_eq_true rfl) rfl ?_)) | (refine AOps.st0 rfl rfl (op_store (cs' := [_, _, _, _, _]) (i := 1) rfl ts_91 rfl rfl rfl rfl rfl (Nat.le_of_ble_eq_true rfl) rfl ?_))
                        refine AOps.st 3 rfl rfl rfl (op_assign rfl rfl ?_)
                        refine AOps.nil ?_
                        refine go_code ?_
                        refine c_ret ?_
                        refine out_ct (i := 1) rfl rfl rfl rfl ta_91 rfl (Le.tup (Les.cons (Le.agg (Les.cons (Le.beq ?_) (Les.cons (Le.beq ?_) (Les.cons (Le.beq ?_) (Les.cons (Le.beq ?_) (Les.cons (Le.ieq ?_) (Les.refl _))))))) (Les.cons (Le.beq ?_) (Les.refl _)))) (by first | exact MLe.none _ | exact MLe.refl _ | (repeat' (first | exact MLe.nil | exact MLe.refl _ | refine MLe.cons _ ?_ | refine MLe.drop _ ?_))) ⟨rfl, rfl⟩
                        all_goals first | (subst_vars; rfl) | (simp only [opA, opB, opN, opS, opG, opOk]; first | (symm; rw [decide_eq_false_iff_not]; omega) | (symm; rw [decide_eq_true_iff]; omega) | (repeat' split) <;> omega)
                    · refine c_cond_t rfl ?_
                      refine c_exit ?_
                      refine x_code ?_
                      refine x_code ?_
                      refine x_past (by simp) ?_
                      refine x_code ?_
                      refine x_past (by simp) ?_
                      refine x_code ?_
                      refine x_past (by simp) ?_
                      refine x_code ?_
                      refine x_past (by simp) ?_
                      refine x_code ?_
                      refine x_past (by simp) ?_
                      refine x_code ?_
                      refine x_past (by simp) ?_
                      refine x_code ?_
                      refine x_here ?_
                      refine go_code ?_
                      refine c_seq ?_
                      refine c_region ?_
                      refine AOps.st 55 rfl rfl rfl (op_fieldAddr_m rfl tf_91_0 rfl ?_)
                      refine AOps.st0 rfl rfl (op_store (cs' := [_, _, _, _, _]) (i := 0) rfl ts_4 rfl rfl rfl rfl rfl (Nat.le_of_ble_eq_true rfl) rfl ?_)
                      refine AOps.st 56 rfl rfl rfl (op_fieldAddr_m rfl tf_91_2 rfl ?_)
                      refine AOps.st0 rfl rfl (op_store (cs' := [_, _, _, _, _]) (i := 0) rfl ts_4 rfl rfl rfl rfl rfl (Nat.le_of_ble_eq_true rfl) rfl ?_)
                      refine AOps.st 57 rfl rfl rfl (op_fieldAddr_m rfl tf_91_4 rfl ?_)
                      refine AOps.st0 rfl rfl (op_store (cs' := [_, _, _, _, _]) (i := 0) rfl ts_3 rfl rfl rfl rfl rfl (Nat.le_of_ble_eq_true rfl) rfl ?_)
                      refine AOps.nil ?_
                      refine go_code ?_
                      refine c_exit ?_
                      refine x_past (by simp) ?_
                      refine x_code ?_
                      refine x_past (by simp) ?_
                      refine x_code ?_
                      refine x_past (by simp) ?_
                      refine x_code ?_
                      refine x_past (by simp) ?_
                      refine x_code ?_
                      refine x_past (by simp) ?_
                      refine x_code ?_
                      refine x_past (by simp) ?_
                      refine x_code ?_
                      refine x_here ?_
                      refine go_code ?_
                      refine c_seq ?_
                      refine c_region ?_
                      refine AOps.st 65 rfl rfl rfl (op_load_m (cs' := [_, _, _, _, _]) (i := 0) rfl ta_91 rfl rfl rfl rfl ?_)
                      first | (refine AOps.st0 rfl rfl (op_store (cs' := [_, _, _, _, _]) (i := 0) rfl ts_91 rfl rfl rfl rfl rfl (Nat.le_of_ble_eq_true rfl) rfl ?_)) | (refine AOps.st0 rfl rfl (op_store (cs' := [_, _, _, _, _]) (i := 1) rfl ts_91 rfl rfl rfl rfl rfl (Nat.le_of_ble_eq_true rfl) rfl ?_))
                      refine AOps.st 3 rfl rfl rfl (op_assign rfl rfl ?_)
                      refine AOps.nil ?_
                      refine go_code ?_
                      refine c_ret ?_
                      refine out_ct (i := 1) rfl rfl rfl rfl ta_91 rfl (Le.tup (Les.cons (Le.agg (Les.cons (Le.beq ?_) (Les.cons (Le.beq ?_) (Les.cons (Le.beq ?_) (Les.cons (Le.beq ?_) (Les.cons (Le.ieq ?_) (Les.refl _))))))) (Les.cons (Le.beq ?_) (Les.refl _)))) (by first | exact MLe.none _ | exact MLe.refl _ | (repeat' (first | exact MLe.nil | exact MLe.refl _ | refine MLe.cons _ ?_ | refine MLe.drop _ ?_))) ⟨rfl, rfl⟩
                      all_goals first | (subst_vars; rfl) | (simp only [opA, opB, opN, opS, opG, opOk]; first | (symm; rw [decide_eq_false_iff_not]; omega) | (symm; rw [decide_eq_true_iff]; omega) | (repeat' split) <;> omega)
                  · refine c_cond_t rfl ?_
                    refine c_exit ?_
                    refine x_code ?_
                    refine x_code ?_
                    refine x_past (by simp) ?_
                    refine x_code ?_
                    refine x_past (by simp) ?_
                    refine x_code ?_
                    refine x_past (by simp) ?_
                    refine x_code ?_
                    refine x_past (by simp) ?_
                    refine x_code ?_
                    refine x_past (by simp) ?_
                    refine x_code ?_
                    refine x_here ?_
                    refine go_code ?_
                    refine c_seq ?_
                    refine c_region ?_
                    refine AOps.st 52 rfl rfl rfl (op_fieldAddr_m rfl tf_91_0 rfl ?_)
                    refine AOps.st0 rfl rfl (op_store (cs' := [_, _, _, _, _]) (i := 0) rfl ts_4 rfl rfl rfl rfl rfl (Nat.le_of_ble_eq_true rfl) rfl ?_)
                    refine AOps.st 53 rfl rfl rfl (op_fieldAddr_m rfl tf_91_2 rfl ?_)
                    refine AOps.st0 rfl rfl (op_store (cs' := [_, _, _, _, _]) (i := 0) rfl ts_4 rfl rfl rfl rfl rfl (Nat.le_of_ble_eq_true rfl) rfl ?_)
                    refine AOps.st 54 rfl rfl rfl (op_fieldAddr_m rfl tf_91_4 rfl ?_)
                    refine AOps.st0 rfl rfl (op_store (cs' := [_, _, _, _, _]) (i := 0) rfl ts_3 rfl rfl rfl rfl rfl (Nat.le_of_ble_eq_true rfl) rfl ?_)
                    refine AOps.nil ?_
                    refine go_code ?_
                    refine c_exit ?_
                    refine x_past (by simp) ?_
                    refine x_code ?_
                    refine x_past (by simp) ?_
                    refine x_code ?_
                    refine x_past (by simp) ?_
                    refine x_code ?_
                    refine x_past (by simp) ?_
                    refine x_code ?_
                    refine x_past (by simp) ?_
                    refine x_code ?_
                    refine x_past (by simp) ?_
                    refine x_code ?_
                    refine x_past (by simp) ?_
                    refine x_code ?_
                    refine x_here ?_
                    refine go_code ?_
                    refine c_seq ?_
                    refine c_region ?_
                    refine AOps.st 65 rfl rfl rfl (op_load_m (cs' := [_, _, _, _, _]) (i := 0) rfl ta_91 rfl rfl rfl rfl ?_)
                    first | (refine AOps.st0 rfl rfl (op_store (cs' := [_, _, _, _, _]) (i := 0) rfl ts_91 rfl rfl rfl rfl rfl (Nat.le_of_ble_eq_true rfl) rfl ?_)) | (refine AOps.st0 rfl rfl (op_store (cs' := [_, _, _, _, _]) (i := 1) rfl ts_91 rfl rfl rfl rfl rfl (Nat.le_of_ble_eq_true rfl) rfl ?_))
                    refine AOps.st 3 rfl rfl rfl (op_assign rfl rfl ?_)
                    refine AOps.nil ?_
                    refine go_code ?_
                    refine c_ret ?_
                    refine out_ct (i := 1) rfl rfl rfl rfl ta_91 rfl (Le.tup (Les.cons (Le.agg (Les.cons (Le.beq ?_) (Les.cons (Le.beq ?_) (Les.cons (Le.beq ?_) (Les.cons (Le.beq ?_) (Les.cons (Le.ieq ?_) (Les.refl _))))))) (Les.cons (Le.beq ?_) (Les.refl _)))) (by first | exact MLe.none _ | exact MLe.refl _ | (repeat' (first | exact MLe.nil | exact MLe.refl _ | refine MLe.cons _ ?_ | refine MLe.drop _ ?_))) ⟨rfl, rfl⟩
                    all_goals first | (subst_vars; rfl) | (simp only [opA, opB, opN, opS, opG, opOk]; first | (symm; rw [decide_eq_false_iff_not]; omega) | (symm; rw [decide_eq_true_iff]; omega) | (repeat' split) <;> omega)
                · refine c_cond_t rfl ?_
                  refine c_skip ?_
                  refine go_code ?_
                  refine c_cond_t rfl ?_
                  refine c_exit ?_
                  refine x_code ?_
                  refine x_code ?_
                  refine x_past (by simp) ?_
                  refine x_code ?_
                  refine x_past (by simp) ?_
                  refine x_code ?_
                  refine x_past (by simp) ?_
                  refine x_code ?_
                  refine x_past (by simp) ?_
                  refine x_code ?_
                  refine x_past (by simp) ?_
                  refine x_code ?_
                  refine x_here ?_
                  refine go_code ?_
                  refine c_seq ?_
                  refine c_region ?_
                  refine AOps.st 52 rfl rfl rfl (op_fieldAddr_m rfl tf_91_0 rfl ?_)
                  refine AOps.st0 rfl rfl (op_store (cs' := [_, _, _, _, _]) (i := 0) rfl ts_4 rfl rfl rfl rfl rfl (Nat.le_of_ble_eq_true rfl) rfl ?_)
                  refine AOps.st 53 rfl rfl rfl (op_fieldAddr_m rfl tf_91_2 rfl ?_)
                  refine AOps.st0 rfl rfl (op_store (cs' := [_, _, _, _, _]) (i := 0) rfl ts_4 rfl rfl rfl rfl rfl (Nat.le_of_ble_eq_true rfl) rfl ?_)
                  refine AOps.st 54 rfl rfl rfl (op_fieldAddr_m rfl tf_91_4 rfl ?_)
                  refine AOps.st0 rfl rfl (op_store (cs' := [_, _, _, _, _]) (i := 0) rfl ts_3 rfl rfl rfl rfl rfl (Nat.le_of_ble_eq_true rfl) rfl ?_)
                  refine AOps.nil ?_
                  refine go_code ?_
                  refine c_exit ?_
                  refine x_past (by simp) ?_
                  refine x_code ?_
                  refine x_past (by simp) ?_
                  refine x_code ?_
                  refine x_past (by simp) ?_
                  refine x_code ?_
                  refine x_past (by simp) ?_
                  refine x_code ?_
                  refine x_past (by simp) ?_
                  refine x_code ?_
                  refine x_past (by simp) ?_
                  refine x_code ?_
                  refine x_past (by simp) ?_
                  refine x_code ?_
                  refine x_here ?_
                  refine go_code ?_
                  refine c_seq ?_
                  refine c_region ?_
                  refine AOps.st 65 rfl rfl rfl (op_load_m (cs' := [_, _, _, _, _]) (i := 0) rfl ta_91 rfl rfl rfl rfl ?_)
                  first | (refine AOps.st0 rfl rfl (op_store (cs' := [_, _, _, _, _]) (i := 0) rfl ts_91 rfl rfl rfl rfl rfl (Nat.le_of_ble_eq_true rfl) rfl ?_)) | (refine AOps.st0 rfl rfl (op_store (cs' := [_, _, _, _, _]) (i := 1) rfl ts_91 rfl rfl rfl rfl rfl (Nat.le_of_ble_eq_true rfl) rfl ?_))
                  refine AOps.st 3 rfl rfl rfl (op_assign rfl rfl ?_)
                  refine AOps.nil ?_
                  refine go_code ?_
                  refine c_ret ?_
                  refine out_ct (i := 1) rfl rfl rfl rfl ta_91 rfl (Le.tup (Les.cons (Le.agg (Les.cons (Le.beq ?_) (Les.cons (Le.beq ?_) (Les.cons (Le.beq ?_) (Les.cons (Le.beq ?_) (Les.cons (Le.ieq ?_) (Les.refl _))))))) (Les.cons (Le.beq ?_) (Les.refl _)))) (by first | exact MLe.none _ | exact MLe.refl _ | (repeat' (first | exact MLe.nil | exact MLe.refl _ | refine MLe.cons _ ?_ | refine MLe.drop _ ?_))) ⟨rfl, rfl⟩
                  all_goals first | (subst_vars; rfl) | (simp only [opA, opB, opN, opS, opG, opOk]; first | (symm; rw [decide_eq_false_iff_not]; omega) | (symm; rw [decide_eq_true_iff]; omega) | (repeat' split) <;> omega)
              · refine c_cond_t rfl ?_
                refine c_exit ?_
                refine x_code ?_
                refine x_code ?_
                refine x_past (by simp) ?_
                refine x_code ?_
                refine x_past (by simp) ?_
                refine x_code ?_
                refine x_past (by simp) ?_
                refine x_code ?_
                refine x_past (by simp) ?_
                refine x_code ?_
                refine x_here ?_
                refine go_code ?_
                refine c_seq ?_
                refine c_region ?_
                refine AOps.st 50 rfl rfl rfl (op_fieldAddr_m rfl tf_91_0 rfl ?_)
                refine AOps.st0 rfl rfl (op_store (cs' := [_, _, _, _, _]) (i := 0) rfl ts_4 rfl rfl rfl rfl rfl (Nat.le_of_ble_eq_true rfl) rfl ?_)
                refine AOps.st 51 rfl rfl rfl (op_fieldAddr_m rfl tf_91_1 rfl ?_)
                refine AOps.st0 rfl rfl (op_store (cs' := [_, _, _, _, _]) (i := 0) rfl ts_4 rfl rfl rfl rfl rfl (Nat.le_of_ble_eq_true rfl) rfl ?_)
                refine AOps.nil ?_
                refine go_code ?_
                refine c_exit ?_
                refine x_past (by simp) ?_
                refine x_code ?_
                refine x_past (by simp) ?_
                refine x_code ?_
                refine x_past (by simp) ?_
                refine x_code ?_
                refine x_past (by simp) ?_
                refine x_code ?_
                refine x_past (by simp) ?_
                refine x_code ?_
                refine x_past (by simp) ?_
                refine x_code ?_
                refine x_past (by simp) ?_
                refine x_code ?_
                refine x_past (by simp) ?_
                refine x_code ?_
                refine x_here ?_
                refine go_code ?_
                refine c_seq ?_
                refine c_region ?_
                refine AOps.st 65 rfl rfl rfl (op_load_m (cs' := [_, _, _, _, _]) (i := 0) rfl ta_91 rfl rfl rfl rfl ?_)
                first | (refine AOps.st0 rfl rfl (op_store (cs' := [_, _, _, _, _]) (i := 0) rfl ts_91 rfl rfl rfl rfl rfl (Nat.le_of_ble_eq_true rfl) rfl ?_)) | (refine AOps.st0 rfl rfl (op_store (cs' := [_, _, _, _, _]) (i := 1) rfl ts_91 rfl rfl rfl rfl rfl (Nat.le_of_ble_eq_true rfl) rfl ?_))
                refine AOps.st 3 rfl rfl rfl (op_assign rfl rfl ?_)
                refine AOps.nil ?_
                refine go_code ?_
                refine c_ret ?_
                refine out_ct (i := 1) rfl rfl rfl rfl ta_91 rfl (Le.tup (Les.cons (Le.agg (Les.cons (Le.beq ?_) (Les.cons (Le.beq ?_) (Les.cons (Le.beq ?_) (Les.cons (Le.beq ?_) (Les.cons (Le.ieq ?_) (Les.refl _))))))) (Les.cons (Le.beq ?_) (Les.refl _)))) (by first | exact MLe.none _ | exact MLe.refl _ | (repeat' (first | exact MLe.nil | exact MLe.refl _ | refine MLe.cons _ ?_ | refine MLe.drop _ ?_))) ⟨rfl, rfl⟩
                all_goals first | (subst_vars; rfl) | (simp only [opA, opB, opN, opS, opG, opOk]; first | (symm; rw [decide_eq_false_iff_not]; omega) | (symm; rw [decide_eq_true_iff]; omega) | (repeat' split) <;> omega)
            · refine c_cond_t rfl ?_
              refine c_exit ?_
              refine x_code ?_
              refine x_code ?_
              refine x_past (by simp) ?_
              refine x_code ?_
              refine x_past (by simp) ?_
              refine x_code ?_
              refine x_past (by simp) ?_
              refine x_code ?_
              refine x_here ?_
              refine go_code ?_
              refine c_seq ?_
              refine c_region ?_
              refine AOps.st 46 rfl rfl rfl (op_fieldAddr_m rfl tf_91_4 rfl ?_)
              refine AOps.st 47 rfl rfl rfl (op_load_m1 (i := 0) rfl ta_3 rfl rfl rfl ?_)
              refine AOps.st 48 rfl rfl rfl (op_add rfl rfl rfl (IntWalk.i64_in _ (by omega)) ?_)
              refine AOps.st 49 rfl rfl rfl (op_fieldAddr_m rfl tf_91_4 rfl ?_)
              refine AOps.st0 rfl rfl (op_store (cs' := [_, _, _, _, _]) (i := 0) rfl ts_3 rfl rfl rfl rfl rfl (Nat.le_of_ble_eq_true rfl) rfl ?_)
              refine AOps.nil ?_
              refine go_code ?_
              refine c_exit ?_
              refine x_past (by simp) ?_
              refine x_code ?_
              refine x_past (by simp) ?_
              refine x_code ?_
              refine x_past (by simp) ?_
              refine x_code ?_
              refine x_past (by simp) ?_
              refine x_code ?_
              refine x_past (by simp) ?_
              refine x_code ?_
              refine x_past (by simp) ?_
              refine x_code ?_
              refine x_past (by simp) ?_
              refine x_code ?_
              refine x_past (by simp) ?_
              refine x_code ?_
              refine x_past (by simp) ?_
              refine x_code ?_
              refine x_here ?_
              refine go_code ?_
              refine c_seq ?_
              refine c_region ?_
              refine AOps.st 65 rfl rfl rfl (op_load_m (cs' := [_, _, _, _, _]) (i := 0) rfl ta_91 rfl rfl rfl rfl ?_)
              first | (refine AOps.st0 rfl rfl (op_store (cs' := [_, _, _, _, _]) (i := 0) rfl ts_91 rfl rfl rfl rfl rfl (Nat.le_of_ble_eq_true rfl) rfl ?_)) | (refine AOps.st0 rfl rfl (op_store (cs' := [_, _, _, _, _]) (i := 1) rfl ts_91 rfl rfl rfl rfl rfl (Nat.le_of_ble_eq_true rfl) rfl ?_))
              refine AOps.st 3 rfl rfl rfl (op_assign rfl rfl ?_)
              refine AOps.nil ?_
              refine go_code ?_
              refine c_ret ?_
              refine out_ct (i := 1) rfl rfl rfl rfl ta_91 rfl (Le.tup (Les.cons (Le.agg (Les.cons (Le.beq ?_) (Les.cons (Le.beq ?_) (Les.cons (Le.beq ?_) (Les.cons (Le.beq ?_) (Les.cons (Le.ieq ?_) (Les.refl _))))))) (Les.cons (Le.beq ?_) (Les.refl _)))) (by first | exact MLe.none _ | exact MLe.refl _ | (repeat' (first | exact MLe.nil | exact MLe.refl _ | refine MLe.cons _ ?_ | refine MLe.drop _ ?_))) ⟨rfl, rfl⟩
              all_goals first | (subst_vars; rfl) | (simp only [opA, opB, opN, opS, opG, opOk]; first | (symm; rw [decide_eq_false_iff_not]; omega) | (symm; rw [decide_eq_true_iff]; omega) | (repeat' split) <;> omega)
          · refine c_cond_t rfl ?_
            refine c_skip ?_
            refine go_code ?_
            refine c_cond_t rfl ?_
            refine c_exit ?_
            refine x_code ?_
            refine x_code ?_
            refine x_past (by simp) ?_
            refine x_code ?_
            refine x_past (by simp) ?_
            refine x_code ?_
            refine x_past (by simp) ?_
            refine x_code ?_
            refine x_here ?_
            refine go_code ?_
            refine c_seq ?_
            refine c_region ?_
            refine AOps.st 46 rfl rfl rfl (op_fieldAddr_m rfl tf_91_4 rfl ?_)
            refine AOps.st 47 rfl rfl rfl (op_load_m1 (i := 0) rfl ta_3 rfl rfl rfl ?_)
            refine AOps.st 48 rfl rfl rfl (op_add rfl rfl rfl (IntWalk.i64_in _ (by omega)) ?_)
            refine AOps.st 49 rfl rfl rfl (op_fieldAddr_m rfl tf_91_4 rfl ?_)
            refine AOps.st0 rfl rfl (op_store (cs' := [_, _, _, _, _]) (i := 0) rfl ts_3 rfl rfl rfl rfl rfl (Nat.le_of_ble_eq_true rfl) rfl ?_)
            refine AOps.nil ?_
            refine go_code ?_
            refine c_exit ?_
            refine x_past (by simp) ?_
            refine x_code ?_
            refine x_past (by simp) ?_
            refine x_code ?_
            refine x_past (by simp) ?_
            refine x_code ?_
            refine x_past (by simp) ?_
            refine x_code ?_
            refine x_past (by simp) ?_
            refine x_code ?_
            refine x_past (by simp) ?_
            refine x_code ?_
            refine x_past (by simp) ?_
            refine x_code ?_
            refine x_past (by simp) ?_
            refine x_code ?_
            refine x_past (by simp) ?_
            refine x_code ?_
            refine x_here ?_
            refine go_code ?_
            refine c_seq ?_
            refine c_region ?_
            refine AOps.st 65 rfl rfl rfl (op_load_m (cs' := [_, _, _, _, _]) (i := 0) rfl ta_91 rfl rfl rfl rfl ?_)
            first | (refine AOps.st0 rfl rfl (op_store (cs' := [_, _, _, _, _]) (i := 0) rfl ts_91 rfl rfl rfl rfl rfl (Nat.le_of_ble_eq_true rfl) rfl ?_)) | (refine AOps.st0 rfl rfl (op_store (cs' := [_, _, _, _, _]) (i := 1) rfl ts_91 rfl rfl rfl rfl rfl (Nat.le_of_ble_eq_true rfl) rfl ?_))
            refine AOps.st 3 rfl rfl rfl (op_assign rfl rfl ?_)
            refine AOps.nil ?_
            refine go_code ?_
            refine c_ret ?_
            refine out_ct (i := 1) rfl rfl rfl rfl ta_91 rfl (Le.tup (Les.cons (Le.agg (Les.cons (Le.beq ?_) (Les.cons (Le.beq ?_) (Les.cons (Le.beq ?_) (Les.cons (Le.beq ?_) (Les.cons (Le.ieq ?_) (Les.refl _))))))) (Les.cons (Le.beq ?_) (Les.refl _)))) (by first | exact MLe.none _ | exact MLe.refl _ | (repeat' (first | exact MLe.nil | exact MLe.refl _ | refine MLe.cons _ ?_ | refine MLe.drop _ ?_))) ⟨rfl, rfl⟩
            all_goals first | (subst_vars; rfl) | (simp only [opA, opB, opN, opS, opG, opOk]; first | (symm; rw [decide_eq_false_iff_not]; omega) | (symm; rw [decide_eq_true_iff]; omega) | (repeat' split) <;> omega)
        · refine c_cond_t rfl ?_
          refine c_exit ?_
          refine x_code ?_
          refine x_code ?_
          refine x_past (by simp) ?_
          refine x_code ?_
          refine x_past (by simp) ?_
          refine x_code ?_
          refine x_here ?_
          refine go_code ?_
          refine c_region ?_
          refine AOps.st 42 rfl rfl rfl (op_fieldAddr_m rfl tf_91_4 rfl ?_)
          refine AOps.st 43 rfl rfl rfl (op_load_m1 (i := 0) rfl ta_3 rfl rfl rfl ?_)
          refine AOps.st 44 rfl rfl rfl (op_add rfl rfl rfl (IntWalk.i64_in _ (by omega)) ?_)
          refine AOps.st 45 rfl rfl rfl (op_fieldAddr_m rfl tf_91_4 rfl ?_)
          refine AOps.st0 rfl rfl (op_store (cs' := [_, _, _, _, _]) (i := 0) rfl ts_3 rfl rfl rfl rfl rfl (Nat.le_of_ble_eq_true rfl) rfl ?_)
          refine AOps.nil ?_
          refine go_blk ?_
          refine go_code ?_
          refine c_seq ?_
          refine c_region ?_
          refine AOps.st 46 rfl rfl rfl (op_fieldAddr_m rfl tf_91_4 rfl ?_)
          refine AOps.st 47 rfl rfl rfl (op_load_m1 (i := 0) rfl ta_3 rfl rfl rfl ?_)
          refine AOps.st 48 rfl rfl rfl (op_add rfl rfl rfl (IntWalk.i64_in _ (by omega)) ?_)
          refine AOps.st 49 rfl rfl rfl (op_fieldAddr_m rfl tf_91_4 rfl ?_)
          refine AOps.st0 rfl rfl (op_store (cs' := [_, _, _, _, _]) (i := 0) rfl ts_3 rfl rfl rfl rfl rfl (Nat.le_of_ble_eq_true rfl) rfl ?_)
          refine AOps.nil ?_
          refine go_code ?_
          refine c_exit ?_
          refine x_past (by simp) ?_
          refine x_code ?_
          refine x_past (by simp) ?_
          refine x_code ?_
          refine x_past (by simp) ?_
          refine x_code ?_
          refine x_past (by simp) ?_
          refine x_code ?_
          refine x_past (by simp) ?_
          refine x_code ?_
          refine x_past (by simp) ?_
          refine x_code ?_
          refine x_past (by simp) ?_
          refine x_code ?_
          refine x_past (by simp) ?_
          refine x_code ?_
          refine x_past (by simp) ?_
          refine x_code ?_
          refine x_here ?_
          refine go_code ?_
          refine c_seq ?_
          refine c_region ?_
          refine AOps.st 65 rfl rfl rfl (op_load_m (cs' := [_, _, _, _, _]) (i := 0) rfl ta_91 rfl rfl rfl rfl ?_)
          first | (refine AOps.st0 rfl rfl (op_store (cs' := [_, _, _, _, _]) (i := 0) rfl ts_91 rfl rfl rfl rfl rfl (Nat.le_of_ble_eq_true rfl) rfl ?_)) | (refine AOps.st0 rfl rfl (op_store (cs' := [_, _, _, _, _]) (i := 1) rfl ts_91 rfl rfl rfl rfl rfl (Nat.le_of_ble_eq_true rfl) rfl ?_))
          refine AOps.st 3 rfl rfl rfl (op_assign rfl rfl ?_)
          refine AOps.nil ?_
          refine go_code ?_
          refine c_ret ?_
          refine out_ct (i := 1) rfl rfl rfl rfl ta_91 rfl (Le.tup (Les.cons (Le.agg (Les.cons (Le.beq ?_) (Les.cons (Le.beq ?_) (Les.cons (Le.beq ?_) (Les.cons (Le.beq ?_) (Les.cons (Le.ieq ?_) (Les.refl _))))))) (Les.cons (Le.beq ?_) (Les.refl _)))) (by first | exact MLe.none _ | exact MLe.refl _ | (repeat' (first | exact MLe.nil | exact MLe.refl _ | refine MLe.cons _ ?_ | refine MLe.drop _ ?_))) ⟨rfl, rfl⟩
          all_goals first | (subst_vars; rfl) | (simp only [opA, opB, opN, opS, opG, opOk]; first | (symm; rw [decide_eq_false_iff_not]; omega) | (symm; rw [decide_eq_true_iff]; omega) | (repeat' split) <;> omega)
      · refine c_cond_t rfl ?_
        refine c_exit ?_
        refine x_code ?_
        refine x_code ?_
        refine x_past (by simp) ?_
        refine x_code ?_
        refine x_here ?_
        refine go_code ?_
        refine c_seq ?_
        refine c_seq ?_
        refine c_region ?_
        refine AOps.st 37 rfl rfl rfl (op_fieldAddr_m rfl tf_91_0 rfl ?_)
        refine AOps.st0 rfl rfl (op_store (cs' := [_, _, _, _, _]) (i := 0) rfl ts_4 rfl rfl rfl rfl rfl (Nat.le_of_ble_eq_true rfl) rfl ?_)
        refine AOps.nil ?_
        refine go_code ?_
        refine c_region ?_
        refine AOps.st 38 rfl rfl rfl (op_fieldAddr_m rfl tf_91_4 rfl ?_)
        refine AOps.st 39 rfl rfl rfl (op_load_m1 (i := 0) rfl ta_3 rfl rfl rfl ?_)
        refine AOps.st 40 rfl rfl rfl (op_add rfl rfl rfl (IntWalk.i64_in _ (by omega)) ?_)
        refine AOps.st 41 rfl rfl rfl (op_fieldAddr_m rfl tf_91_4 rfl ?_)
        refine AOps.st0 rfl rfl (op_store (cs' := [_, _, _, _, _]) (i := 0) rfl ts_3 rfl rfl rfl rfl rfl (Nat.le_of_ble_eq_true rfl) rfl ?_)
        refine AOps.nil ?_
        refine go_code ?_
        refine c_exit ?_
        refine x_past (by simp) ?_
        refine x_code ?_
        refine x_past (by simp) ?_
        refine x_code ?_
        refine x_past (by simp) ?_
        refine x_code ?_
        refine x_past (by simp) ?_
        refine x_code ?_
        refine x_past (by simp) ?_
        refine x_code ?_
        refine x_past (by simp) ?_
        refine x_code ?_
        refine x_past (by simp) ?_
        refine x_code ?_
        refine x_past (by simp) ?_
        refine x_code ?_
        refine x_past (by simp) ?_
        refine x_code ?_
        refine x_past (by simp) ?_
        refine x_code ?_
        refine x_past (by simp) ?_
        refine x_code ?_
        refine x_here ?_
        refine go_code ?_
        refine c_seq ?_
        refine c_region ?_
        refine AOps.st 65 rfl rfl rfl (op_load_m (cs' := [_, _, _, _, _]) (i := 0) rfl ta_91 rfl rfl rfl rfl ?_)
        first | (refine AOps.st0 rfl rfl (op_store (cs' := [_, _, _, _, _]) (i := 0) rfl ts_91 rfl rfl rfl rfl rfl (Nat.le_of_ble_eq_true rfl) rfl ?_)) | (refine AOps.st0 rfl rfl (op_store (cs' := [_, _, _, _, _]) (i := 1) rfl ts_91 rfl rfl rfl rfl rfl (Nat.le_of_ble_eq_true rfl) rfl ?_))
        refine AOps.st 3 rfl rfl rfl (op_assign rfl rfl ?_)
        refine AOps.nil ?_
        refine go_code ?_
        refine c_ret ?_
        refine out_ct (i := 1) rfl rfl rfl rfl ta_91 rfl (Le.tup (Les.cons (Le.agg (Les.cons (Le.beq ?_) (Les.cons (Le.beq ?_) (Les.cons (Le.beq ?_) (Les.cons (Le.beq ?_) (Les.cons (Le.ieq ?_) (Les.refl _))))))) (Les.cons (Le.beq ?_) (Les.refl _)))) (by first | exact MLe.none _ | exact MLe.refl _ | (repeat' (first | exact MLe.nil | exact MLe.refl _ | refine MLe.cons _ ?_ | refine MLe.drop _ ?_))) ⟨rfl, rfl⟩
        all_goals first | (subst_vars; rfl) | (simp only [opA, opB, opN, opS, opG, opOk]; first | (symm; rw [decide_eq_false_iff_not]; omega) | (symm; rw [decide_eq_true_iff]; omega) | (repeat' split) <;> omega)
    · refine c_cond_t rfl ?_
      refine c_skip ?_
      refine go_code ?_
      refine c_cond_t rfl ?_
      refine c_exit ?_
      refine x_code ?_
      refine x_code ?_
      refine x_past (by simp) ?_
      refine x_code ?_
      refine x_here ?_
      refine go_code ?_
      refine c_seq ?_
      refine c_seq ?_
      refine c_region ?_
      refine AOps.st 37 rfl rfl rfl (op_fieldAddr_m rfl tf_91_0 rfl ?_)
      refine AOps.st0 rfl rfl (op_store (cs' := [_, _, _, _, _]) (i := 0) rfl ts_4 rfl rfl rfl rfl rfl (Nat.le_of_ble_eq_true rfl) rfl ?_)
      refine AOps.nil ?_
      refine go_code ?_
      refine c_region ?_
      refine AOps.st 38 rfl rfl rfl (op_fieldAddr_m rfl tf_91_4 rfl ?_)
      refine AOps.st 39 rfl rfl rfl (op_load_m1 (i := 0) rfl ta_3 rfl rfl rfl ?_)
      refine AOps.st 40 rfl rfl rfl (op_add rfl rfl rfl (IntWalk.i64_in _ (by omega)) ?_)
      refine AOps.st 41 rfl rfl rfl (op_fieldAddr_m rfl tf_91_4 rfl ?_)
      refine AOps.st0 rfl rfl (op_store (cs' := [_, _, _, _, _]) (i := 0) rfl ts_3 rfl rfl rfl rfl rfl (Nat.le_of_ble_eq_true rfl) rfl ?_)
      refine AOps.nil ?_
      refine go_code ?_
      refine c_exit ?_
      refine x_past (by simp) ?_
      refine x_code ?_
      refine x_past (by simp) ?_
      refine x_code ?_
      refine x_past (by simp) ?_
      refine x_code ?_
      refine x_past (by simp) ?_
      refine x_code ?_
      refine x_past (by simp) ?_
      refine x_code ?_
      refine x_past (by simp) ?_
      refine x_code ?_
      refine x_past (by simp) ?_
      refine x_code ?_
      refine x_past (by simp) ?_
      refine x_code ?_
      refine x_past (by simp) ?_
      refine x_code ?_
      refine x_past (by simp) ?_
      refine x_code ?_
      refine x_past (by simp) ?_
      refine x_code ?_
      refine x_here ?_
      refine go_code ?_
      refine c_seq ?_
      refine c_region ?_
      refine AOps.st 65 rfl rfl rfl (op_load_m (cs' := [_, _, _, _, _]) (i := 0) rfl ta_91 rfl rfl rfl rfl ?_)
      first | (refine AOps.st0 rfl rfl (op_store (cs' := [_, _, _, _, _]) (i := 0) rfl ts_91 rfl rfl rfl rfl rfl (Nat.le_of_ble_eq_true rfl) rfl ?_)) | (refine AOps.st0 rfl rfl (op_store (cs' := [_, _, _, _, _]) (i := 1) rfl ts_91 rfl rfl rfl rfl rfl (Nat.le_of_ble_eq_true rfl) rfl ?_))
      refine AOps.st 3 rfl rfl rfl (op_assign rfl rfl ?_)
      refine AOps.nil ?_
      refine go_code ?_
      refine c_ret ?_
      refine out_ct (i := 1) rfl rfl rfl rfl ta_91 rfl (Le.tup (Les.cons (Le.agg (Les.cons (Le.beq ?_) (Les.cons (Le.beq ?_) (Les.cons (Le.beq ?_) (Les.cons (Le.beq ?_) (Les.cons (Le.ieq ?_) (Les.refl _))))))) (Les.cons (Le.beq ?_) (Les.refl _)))) (by first | exact MLe.none _ | exact MLe.refl _ | (repeat' (first | exact MLe.nil | exact MLe.refl _ | refine MLe.cons _ ?_ | refine MLe.drop _ ?_))) ⟨rfl, rfl⟩
      all_goals first | (subst_vars; rfl) | (simp only [opA, opB, opN, opS, opG, opOk]; first | (symm; rw [decide_eq_false_iff_not]; omega) | (symm; rw [decide_eq_true_iff]; omega) | (repeat' split) <;> omega)
  · refine c_cond_t rfl ?_
    refine c_exit ?_
    refine x_code ?_
    refine x_code ?_
    refine x_here ?_
    refine go_code ?_
    refine c_region ?_
    refine AOps.st 33 rfl rfl rfl (op_fieldAddr_m rfl tf_91_4 rfl ?_)
    refine AOps.st 34 rfl rfl rfl (op_load_m1 (i := 0) rfl ta_3 rfl rfl rfl ?_)
    refine AOps.st 35 rfl rfl rfl (op_add rfl rfl rfl (IntWalk.i64_in _ (by omega)) ?_)
    refine AOps.st 36 rfl rfl rfl (op_fieldAddr_m rfl tf_91_4 rfl ?_)
    refine AOps.st0 rfl rfl (op_store (cs' := [_, _, _, _, _]) (i := 0) rfl ts_3 rfl rfl rfl rfl rfl (Nat.le_of_ble_eq_true rfl) rfl ?_)
    refine AOps.nil ?_
    refine go_blk ?_
    refine go_code ?_
    refine c_seq ?_
    refine c_seq ?_
    refine c_region ?_
    refine AOps.st 37 rfl rfl rfl (op_fieldAddr_m rfl tf_91_0 rfl ?_)
    refine AOps.st0 rfl rfl (op_store (cs' := [_, _, _, _, _]) (i := 0) rfl ts_4 rfl rfl rfl rfl rfl (Nat.le_of_ble_eq_true rfl) rfl ?_)
    refine AOps.nil ?_
    refine go_code ?_
    refine c_region ?_
    refine AOps.st 38 rfl rfl rfl (op_fieldAddr_m rfl tf_91_4 rfl ?_)
    refine AOps.st 39 rfl rfl rfl (op_load_m1 (i := 0) rfl ta_3 rfl rfl rfl ?_)
    refine AOps.st 40 rfl rfl rfl (op_add rfl rfl rfl (IntWalk.i64_in _ (by omega)) ?_)
    refine AOps.st 41 rfl rfl rfl (op_fieldAddr_m rfl tf_91_4 rfl ?_)
    refine AOps.st0 rfl rfl (op_store (cs' := [_, _, _, _, _]) (i := 0) rfl ts_3 rfl rfl rfl rfl rfl (Nat.le_of_ble_eq_true rfl) rfl ?_)
    refine AOps.nil ?_
    refine go_code ?_
    refine c_exit ?_
    refine x_past (by simp) ?_
    refine x_code ?_
    refine x_past (by simp) ?_
    refine x_code ?_
    refine x_past (by simp) ?_
    refine x_code ?_
    refine x_past (by simp) ?_
    refine x_code ?_
    refine x_past (by simp) ?_
    refine x_code ?_
    refine x_past (by simp) ?_
    refine x_code ?_
    refine x_past (by simp) ?_
    refine x_code ?_
    refine x_past (by simp) ?_
    refine x_code ?_
    refine x_past (by simp) ?_
    refine x_code ?_
    refine x_past (by simp) ?_
    refine x_code ?_
    refine x_past (by simp) ?_
    refine x_code ?_
    refine x_here ?_
    refine go_code ?_
    refine c_seq ?_
    refine c_region ?_
    refine AOps.st 65 rfl rfl rfl (op_load_m (cs' := [_, _, _, _, _]) (i := 0) rfl ta_91 rfl rfl rfl rfl ?_)
    first | (refine AOps.st0 rfl rfl (op_store (cs' := [_, _, _, _, _]) (i := 0) rfl ts_91 rfl rfl rfl rfl rfl (Nat.le_of_ble_eq_true rfl) rfl ?_)) | (refine AOps.st0 rfl rfl (op_store (cs' := [_, _, _, _, _]) (i := 1) rfl ts_91 rfl rfl rfl rfl rfl (Nat.le_of_ble_eq_true rfl) rfl ?_))
    refine AOps.st 3 rfl rfl rfl (op_assign rfl rfl ?_)
    refine AOps.nil ?_
    refine go_code ?_
    refine c_ret ?_
    refine out_ct (i := 1) rfl rfl rfl rfl ta_91 rfl (Le.tup (Les.cons (Le.agg (Les.cons (Le.beq ?_) (Les.cons (Le.beq ?_) (Les.cons (Le.beq ?_) (Les.cons (Le.beq ?_) (Les.cons (Le.ieq ?_) (Les.refl _))))))) (Les.cons (Le.beq ?_) (Les.refl _)))) (by first | exact MLe.none _ | exact MLe.refl _ | (repeat' (first | exact MLe.nil | exact MLe.refl _ | refine MLe.cons _ ?_ | refine MLe.drop _ ?_))) ⟨rfl, rfl⟩
    all_goals first | (subst_vars; rfl) | (simp only [opA, opB, opN, opS, opG, opOk]; first | (symm; rw [decide_eq_false_iff_not]; omega) | (symm; rw [decide_eq_true_iff]; omega) | (repeat' split) <;> omega)
set_option maxHeartbeats 4000000 in
set_option maxRecDepth 100000 in
theorem atom_c (c : Cd) (f : Cf) (fr to : Int) (ps : List Pm) (a : Ato) : BCall Try.prog 45 ([.agg (ckCells c f fr to ps)] ++ [.agg a.cells] ++ []) (AtomP f c.gl a) := by
  obtain ⟨is, fu, tx, gl, ys, no⟩ := c
  obtain ⟨fl, sl, cp⟩ := f
  obtain ⟨k, n⟩ := a
  show BCall _ _ _ (k = 1 ∨ (0 ≤ n ∧ ((k = 2 ∧ n < sl) ∨ (k = 3 ∧ n < cp) ∨ (k = 4 ∧ n < gl))))
  refine ACall.enter Try.func45 rfl (by kernel_rfl) rfl (Nat.le_of_ble_eq_true rfl) ?_
  refine c_start ?_
  refine c_seq ?_
  refine c_region ?_
  refine AOps.st 2 rfl rfl rfl (op_boxc (cs' := [_, _, _, _, _, _, _, _, _, _, _, _]) rfl rfl rfl rfl ?_)
  refine AOps.st 3 rfl rfl rfl (op_boxc (cs' := [_, _]) rfl rfl rfl rfl ?_)
  refine AOps.st 4 rfl rfl rfl (op_assign rfl rfl ?_)
  refine AOps.nil ?_
  refine go_code ?_
  refine c_seq ?_
  refine c_region ?_
  refine AOps.st 5 rfl rfl rfl (op_assign rfl rfl ?_)
  refine AOps.nil ?_
  refine go_code ?_
  refine c_seq ?_
  refine c_seq ?_
  refine c_region ?_
  refine AOps.st 6 rfl rfl rfl (op_fieldAddr_c rfl tf_41_0 rfl rfl ?_)
  refine AOps.st 7 rfl rfl rfl (op_load_c1 rfl ta_3 rfl rfl ?_)
  refine AOps.nil ?_
  refine go_code ?_
  refine c_block ?_
  refine c_seq ?_
  refine c_region ?_
  refine AOps.st 9 rfl rfl rfl (op_eql rfl rfl rfl ?_); intro c9 h9
  refine AOps.st 8 rfl rfl rfl (op_assign rfl rfl ?_)
  refine AOps.nil ?_
  refine go_code ?_
  rcases bool_split h9 with ⟨rfl, g9⟩ | ⟨rfl, g9⟩
  · refine c_cond_f rfl ?_
    refine c_seq ?_
    refine c_region ?_
    refine AOps.st 11 rfl rfl rfl (op_eql rfl rfl rfl ?_); intro c11 h11
    refine AOps.st 10 rfl rfl rfl (op_assign rfl rfl ?_)
    refine AOps.nil ?_
    refine go_code ?_
    rcases bool_split h11 with ⟨rfl, g11⟩ | ⟨rfl, g11⟩
    · refine c_cond_f rfl ?_
      refine c_seq ?_
      refine c_region ?_
      refine AOps.st 16 rfl rfl rfl (op_eql rfl rfl rfl ?_); intro c16 h16
      refine AOps.st 15 rfl rfl rfl (op_assign rfl rfl ?_)
      refine AOps.nil ?_
      refine go_code ?_
      rcases bool_split h16 with ⟨rfl, g16⟩ | ⟨rfl, g16⟩
      · refine c_cond_f rfl ?_
        refine c_seq ?_
        refine c_region ?_
        refine AOps.st 21 rfl rfl rfl (op_eql rfl rfl rfl ?_); intro c21 h21
        refine AOps.st 20 rfl rfl rfl (op_assign rfl rfl ?_)
        refine AOps.nil ?_
        refine go_code ?_
        rcases bool_split h21 with ⟨rfl, g21⟩ | ⟨rfl, g21⟩
        · refine c_cond_f rfl ?_
          refine c_skip ?_
          refine go_blk ?_
          refine go_code ?_
          refine c_seq ?_
          refine c_bool 4 (k = 1 ∨ (0 ≤ n ∧ ((k = 2 ∧ n < sl) ∨ (k = 3 ∧ n < cp) ∨ (k = 4 ∧ n < gl)))) ?_ _ _ rfl ?_
          · skip
            refine AOps.st 25 rfl rfl rfl (op_fieldAddr_c rfl tf_41_1 rfl rfl ?_)
            refine AOps.st 26 rfl rfl rfl (op_load_c1 rfl ta_2 rfl rfl ?_)
            refine AOps.st 27 rfl rfl rfl (op_geq rfl rfl rfl ?_); intro c27 h27
            refine AOps.st 28 rfl rfl rfl (op_move rfl rfl ?_)
            rcases bool_split h27 with ⟨rfl, g27⟩ | ⟨rfl, g27⟩
            · skip
              refine AOps.gf 29 rfl rfl rfl rfl rfl ?_
              refine AOps.gf 30 rfl rfl rfl rfl rfl ?_
              refine AOps.gf 31 rfl rfl rfl rfl rfl ?_
              refine AOps.gf 32 rfl rfl rfl rfl rfl ?_
              refine AOps.st 33 rfl rfl rfl (op_pick rfl rfl rfl ?_)
              refine AOps.st 4 rfl rfl rfl (op_assign rfl rfl ?_)
              refine AOps.nil ?_
              refine BoolQ.mk rfl ?_ (by repeat' (first | exact SLe.wo _ _ | exact SLe.refl _ | refine SLe.fresh rfl ?_)) (by first | exact MLe.none _ | exact MLe.refl _ | (repeat' (first | exact MLe.nil | exact MLe.refl _ | refine MLe.cons _ ?_ | refine MLe.drop _ ?_)))
              simp_all; done
            · skip
              refine AOps.gt 29 rfl rfl rfl rfl rfl (op_fieldAddr_c rfl tf_41_1 rfl rfl ?_)
              refine AOps.gt 30 rfl rfl rfl rfl rfl (op_load_c1 rfl ta_2 rfl rfl ?_)
              refine AOps.gt 31 rfl rfl rfl rfl rfl (op_move rfl rfl ?_)
              refine AOps.gt 32 rfl rfl rfl rfl rfl (op_lss rfl rfl rfl ?_); intro c32 h32
              refine AOps.st 33 rfl rfl rfl (op_pick rfl rfl rfl ?_)
              refine AOps.st 4 rfl rfl rfl (op_assign rfl rfl ?_)
              refine AOps.nil ?_
              refine BoolQ.mk rfl ?_ (by repeat' (first | exact SLe.wo _ _ | exact SLe.refl _ | refine SLe.fresh rfl ?_)) (by first | exact MLe.none _ | exact MLe.refl _ | (repeat' (first | exact MLe.nil | exact MLe.refl _ | refine MLe.cons _ ?_ | refine MLe.drop _ ?_)))
              simp_all; done
          intro c4 h4
          refine go_code ?_
          refine c_ret ?_
          exact out_tmp rfl rfl (Le.refl _) (by first | exact MLe.none _ | exact MLe.refl _ | (repeat' (first | exact MLe.nil | exact MLe.refl _ | refine MLe.cons _ ?_ | refine MLe.drop _ ?_))) ⟨⟨_, h4, rfl⟩, rfl⟩
        · refine c_cond_t rfl ?_
          refine c_region ?_
          refine AOps.st 22 rfl rfl rfl (op_fieldAddr_c rfl tf_53_0 rfl rfl ?_)
          refine AOps.st 23 rfl rfl rfl (op_fieldAddr_c rfl tf_26_3 rfl rfl ?_)
          refine AOps.st 24 rfl rfl rfl (op_load_c1 rfl ta_3 rfl rfl ?_)
          refine AOps.st 5 rfl rfl rfl (op_assign rfl rfl ?_)
          refine AOps.nil ?_
          refine go_blk ?_
          refine go_code ?_
          refine c_seq ?_
          refine c_bool 4 (k = 1 ∨ (0 ≤ n ∧ ((k = 2 ∧ n < sl) ∨ (k = 3 ∧ n < cp) ∨ (k = 4 ∧ n < gl)))) ?_ _ _ rfl ?_
          · skip
            refine AOps.st 25 rfl rfl rfl (op_fieldAddr_c rfl tf_41_1 rfl rfl ?_)
            refine AOps.st 26 rfl rfl rfl (op_load_c1 rfl ta_2 rfl rfl ?_)
            refine AOps.st 27 rfl rfl rfl (op_geq rfl rfl rfl ?_); intro c27 h27
            refine AOps.st 28 rfl rfl rfl (op_move rfl rfl ?_)
            rcases bool_split h27 with ⟨rfl, g27⟩ | ⟨rfl, g27⟩
            · skip
              refine AOps.gf 29 rfl rfl rfl rfl rfl ?_
              refine AOps.gf 30 rfl rfl rfl rfl rfl ?_
              refine AOps.gf 31 rfl rfl rfl rfl rfl ?_
              refine AOps.gf 32 rfl rfl rfl rfl rfl ?_
              refine AOps.st 33 rfl rfl rfl (op_pick rfl rfl rfl ?_)
              refine AOps.st 4 rfl rfl rfl (op_assign rfl rfl ?_)
              refine AOps.nil ?_
              refine BoolQ.mk rfl ?_ (by repeat' (first | exact SLe.wo _ _ | exact SLe.refl _ | refine SLe.fresh rfl ?_)) (by first | exact MLe.none _ | exact MLe.refl _ | (repeat' (first | exact MLe.nil | exact MLe.refl _ | refine MLe.cons _ ?_ | refine MLe.drop _ ?_)))
              first | (simp_all; done) | (simp_all; omega)
            · skip
              refine AOps.gt 29 rfl rfl rfl rfl rfl (op_fieldAddr_c rfl tf_41_1 rfl rfl ?_)
              refine AOps.gt 30 rfl rfl rfl rfl rfl (op_load_c1 rfl ta_2 rfl rfl ?_)
              refine AOps.gt 31 rfl rfl rfl rfl rfl (op_move rfl rfl ?_)
              refine AOps.gt 32 rfl rfl rfl rfl rfl (op_lss rfl rfl rfl ?_); intro c32 h32
              refine AOps.st 33 rfl rfl rfl (op_pick rfl rfl rfl ?_)
              refine AOps.st 4 rfl rfl rfl (op_assign rfl rfl ?_)
              refine AOps.nil ?_
              refine BoolQ.mk rfl ?_ (by repeat' (first | exact SLe.wo _ _ | exact SLe.refl _ | refine SLe.fresh rfl ?_)) (by first | exact MLe.none _ | exact MLe.refl _ | (repeat' (first | exact MLe.nil | exact MLe.refl _ | refine MLe.cons _ ?_ | refine MLe.drop _ ?_)))
              simp_all; done
          intro c4 h4
          refine go_code ?_
          refine c_ret ?_
          exact out_tmp rfl rfl (Le.refl _) (by first | exact MLe.none _ | exact MLe.refl _ | (repeat' (first | exact MLe.nil | exact MLe.refl _ | refine MLe.cons _ ?_ | refine MLe.drop _ ?_))) ⟨⟨_, h4, rfl⟩, rfl⟩
      · refine c_cond_t rfl ?_
        refine c_region ?_
        refine AOps.st 17 rfl rfl rfl (op_fieldAddr_c rfl tf_53_1 rfl rfl ?_)
        refine AOps.st 18 rfl rfl rfl (op_fieldAddr_c rfl tf_39_2 rfl rfl ?_)
        refine AOps.st 19 rfl rfl rfl (op_load_c1 rfl ta_3 rfl rfl ?_)
        refine AOps.st 5 rfl rfl rfl (op_assign rfl rfl ?_)
        refine AOps.nil ?_
        refine go_blk ?_
        refine go_code ?_
        refine c_seq ?_
        refine c_bool 4 (k = 1 ∨ (0 ≤ n ∧ ((k = 2 ∧ n < sl) ∨ (k = 3 ∧ n < cp) ∨ (k = 4 ∧ n < gl)))) ?_ _ _ rfl ?_
        · skip
          refine AOps.st 25 rfl rfl rfl (op_fieldAddr_c rfl tf_41_1 rfl rfl ?_)
          refine AOps.st 26 rfl rfl rfl (op_load_c1 rfl ta_2 rfl rfl ?_)
          refine AOps.st 27 rfl rfl rfl (op_geq rfl rfl rfl ?_); intro c27 h27
          refine AOps.st 28 rfl rfl rfl (op_move rfl rfl ?_)
          rcases bool_split h27 with ⟨rfl, g27⟩ | ⟨rfl, g27⟩
          · skip
            refine AOps.gf 29 rfl rfl rfl rfl rfl ?_
            refine AOps.gf 30 rfl rfl rfl rfl rfl ?_
            refine AOps.gf 31 rfl rfl rfl rfl rfl ?_
            refine AOps.gf 32 rfl rfl rfl rfl rfl ?_
            refine AOps.st 33 rfl rfl rfl (op_pick rfl rfl rfl ?_)
            refine AOps.st 4 rfl rfl rfl (op_assign rfl rfl ?_)
            refine AOps.nil ?_
            refine BoolQ.mk rfl ?_ (by repeat' (first | exact SLe.wo _ _ | exact SLe.refl _ | refine SLe.fresh rfl ?_)) (by first | exact MLe.none _ | exact MLe.refl _ | (repeat' (first | exact MLe.nil | exact MLe.refl _ | refine MLe.cons _ ?_ | refine MLe.drop _ ?_)))
            first | (simp_all; done) | (simp_all; omega)
          · skip
            refine AOps.gt 29 rfl rfl rfl rfl rfl (op_fieldAddr_c rfl tf_41_1 rfl rfl ?_)
            refine AOps.gt 30 rfl rfl rfl rfl rfl (op_load_c1 rfl ta_2 rfl rfl ?_)
            refine AOps.gt 31 rfl rfl rfl rfl rfl (op_move rfl rfl ?_)
            refine AOps.gt 32 rfl rfl rfl rfl rfl (op_lss rfl rfl rfl ?_); intro c32 h32
            refine AOps.st 33 rfl rfl rfl (op_pick rfl rfl rfl ?_)
            refine AOps.st 4 rfl rfl rfl (op_assign rfl rfl ?_)
            refine AOps.nil ?_
            refine BoolQ.mk rfl ?_ (by repeat' (first | exact SLe.wo _ _ | exact SLe.refl _ | refine SLe.fresh rfl ?_)) (by first | exact MLe.none _ | exact MLe.refl _ | (repeat' (first | exact MLe.nil | exact MLe.refl _ | refine MLe.cons _ ?_ | refine MLe.drop _ ?_)))
            simp_all; done
        intro c4 h4
        refine go_code ?_
        refine c_ret ?_
        exact out_tmp rfl rfl (Le.refl _) (by first | exact MLe.none _ | exact MLe.refl _ | (repeat' (first | exact MLe.nil | exact MLe.refl _ | refine MLe.cons _ ?_ | refine MLe.drop _ ?_))) ⟨⟨_, h4, rfl⟩, rfl⟩
    · refine c_cond_t rfl ?_
      refine c_region ?_
      refine AOps.st 12 rfl rfl rfl (op_fieldAddr_c rfl tf_53_1 rfl rfl ?_)
      refine AOps.st 13 rfl rfl rfl (op_fieldAddr_c rfl tf_39_1 rfl rfl ?_)
      refine AOps.st 14 rfl rfl rfl (op_load_c1 rfl ta_3 rfl rfl ?_)
      refine AOps.st 5 rfl rfl rfl (op_assign rfl rfl ?_)
      refine AOps.nil ?_
      refine go_blk ?_
      refine go_code ?_
      refine c_seq ?_
      refine c_bool 4 (k = 1 ∨ (0 ≤ n ∧ ((k = 2 ∧ n < sl) ∨ (k = 3 ∧ n < cp) ∨ (k = 4 ∧ n < gl)))) ?_ _ _ rfl ?_
      · skip
        refine AOps.st 25 rfl rfl rfl (op_fieldAddr_c rfl tf_41_1 rfl rfl ?_)
        refine AOps.st 26 rfl rfl rfl (op_load_c1 rfl ta_2 rfl rfl ?_)
        refine AOps.st 27 rfl rfl rfl (op_geq rfl rfl rfl ?_); intro c27 h27
        refine AOps.st 28 rfl rfl rfl (op_move rfl rfl ?_)
        rcases bool_split h27 with ⟨rfl, g27⟩ | ⟨rfl, g27⟩
        · skip
          refine AOps.gf 29 rfl rfl rfl rfl rfl ?_
          refine AOps.gf 30 rfl rfl rfl rfl rfl ?_
          refine AOps.gf 31 rfl rfl rfl rfl rfl ?_
          refine AOps.gf 32 rfl rfl rfl rfl rfl ?_
          refine AOps.st 33 rfl rfl rfl (op_pick rfl rfl rfl ?_)
          refine AOps.st 4 rfl rfl rfl (op_assign rfl rfl ?_)
          refine AOps.nil ?_
          refine BoolQ.mk rfl ?_ (by repeat' (first | exact SLe.wo _ _ | exact SLe.refl _ | refine SLe.fresh rfl ?_)) (by first | exact MLe.none _ | exact MLe.refl _ | (repeat' (first | exact MLe.nil | exact MLe.refl _ | refine MLe.cons _ ?_ | refine MLe.drop _ ?_)))
          first | (simp_all; done) | (simp_all; omega)
        · skip
          refine AOps.gt 29 rfl rfl rfl rfl rfl (op_fieldAddr_c rfl tf_41_1 rfl rfl ?_)
          refine AOps.gt 30 rfl rfl rfl rfl rfl (op_load_c1 rfl ta_2 rfl rfl ?_)
          refine AOps.gt 31 rfl rfl rfl rfl rfl (op_move rfl rfl ?_)
          refine AOps.gt 32 rfl rfl rfl rfl rfl (op_lss rfl rfl rfl ?_); intro c32 h32
          refine AOps.st 33 rfl rfl rfl (op_pick rfl rfl rfl ?_)
          refine AOps.st 4 rfl rfl rfl (op_assign rfl rfl ?_)
          refine AOps.nil ?_
          refine BoolQ.mk rfl ?_ (by repeat' (first | exact SLe.wo _ _ | exact SLe.refl _ | refine SLe.fresh rfl ?_)) (by first | exact MLe.none _ | exact MLe.refl _ | (repeat' (first | exact MLe.nil | exact MLe.refl _ | refine MLe.cons _ ?_ | refine MLe.drop _ ?_)))
          simp_all; done
      intro c4 h4
      refine go_code ?_
      refine c_ret ?_
      exact out_tmp rfl rfl (Le.refl _) (by first | exact MLe.none _ | exact MLe.refl _ | (repeat' (first | exact MLe.nil | exact MLe.refl _ | refine MLe.cons _ ?_ | refine MLe.drop _ ?_))) ⟨⟨_, h4, rfl⟩, rfl⟩
  · refine c_cond_t rfl ?_
    refine c_seq ?_
    refine c_region ?_
    refine AOps.st 4 rfl rfl rfl (op_assign rfl rfl ?_)
    refine AOps.nil ?_
    refine go_code ?_
    refine c_ret ?_
    exact out_tmp rfl rfl (Le.refl _) (by first | exact MLe.none _ | exact MLe.refl _ | (repeat' (first | exact MLe.nil | exact MLe.refl _ | refine MLe.cons _ ?_ | refine MLe.drop _ ?_))) ⟨⟨_, iff_t (.inl g9), rfl⟩, rfl⟩
set_option maxHeartbeats 4000000 in
set_option maxRecDepth 100000 in
theorem places_c (c : Cd) (f : Cf) (fr to : Int) (ps : List Pm) (i : Is) (fa fb fn fg : Bool) (ag : Int) : BCall Try.prog 42 [.agg (ckCells c f fr to ps), .agg i.cells, .agg [.val (.bool fa), .val (.bool fb), .val (.bool fn), .val (.bool fg), .val (.int .i64 ag)]] (PlaP c f fr to i fa fb) := by
  obtain ⟨is, fu, tx, gl, ys, no⟩ := c
  obtain ⟨fl, sl, cp⟩ := f
  obtain ⟨op, a, b, n, ar, fs, ca⟩ := i
  have hlt := strs_len tx
  show BCall _ _ _ ((fa = false → a = 0) ∧ (fb = false → b = 0) ∧ (fa = true → 0 ≤ a ∧ ((op = 10 → a < gl) ∧ (op ≠ 10 → a < sl))) ∧ (fb = true → (op = 2 → 0 ≤ b ∧ b < tx.length) ∧ (op ≠ 2 → fr ≤ b ∧ b < to)))
  refine ACall.enter Try.func42 rfl (by kernel_rfl) rfl (Nat.le_of_ble_eq_true rfl) ?_
  refine c_start ?_
  refine c_seq ?_
  refine c_region ?_
  refine AOps.st 3 rfl rfl rfl (op_boxc (cs' := [_, _, _, _, _, _, _, _, _, _, _, _]) rfl rfl rfl rfl ?_)
  refine AOps.st 4 rfl rfl rfl (op_boxc (cs' := [_, _, _, _, _, _, _]) rfl rfl rfl rfl ?_)
  refine AOps.st 5 rfl rfl rfl (op_boxc (cs' := [_, _, _, _, _]) rfl rfl rfl rfl ?_)
  refine AOps.st 6 rfl rfl rfl (op_assign rfl rfl ?_)
  refine AOps.nil ?_
  refine go_code ?_
  refine c_seq ?_
  refine c_block ?_
  refine c_seq ?_
  refine c_bool 7 (¬ ((fa = false → a = 0) ∧ (fb = false → b = 0))) ?_ _ _ rfl ?_
  · skip
    refine AOps.st 8 rfl rfl rfl (op_fieldAddr_c rfl tf_91_0 rfl rfl ?_)
    refine AOps.st 9 rfl rfl rfl (op_load_c1 rfl ta_4 rfl rfl ?_)
    have h9 : (fa = true ↔ fa = true) := Iff.rfl
    refine AOps.st 10 rfl rfl rfl (op_notc rfl rfl ?_); intro c10 h10
    try replace h10 := nott h10 h9
    refine AOps.st 11 rfl rfl rfl (op_move rfl rfl ?_)
    rcases bool_split h10 with ⟨rfl, g10⟩ | ⟨rfl, g10⟩
    · skip
      refine AOps.gf 12 rfl rfl rfl rfl rfl ?_
      refine AOps.gf 13 rfl rfl rfl rfl rfl ?_
      refine AOps.gf 14 rfl rfl rfl rfl rfl ?_
      refine AOps.st 15 rfl rfl rfl (op_pick rfl rfl rfl ?_)
      refine AOps.st 16 rfl rfl rfl (op_move rfl rfl ?_)
      refine AOps.gt 17 rfl rfl rfl rfl rfl (op_fieldAddr_c rfl tf_91_1 rfl rfl ?_)
      refine AOps.gt 18 rfl rfl rfl rfl rfl (op_load_c1 rfl ta_4 rfl rfl ?_)
      have h18 : (fb = true ↔ fb = true) := Iff.rfl
      refine AOps.gt 19 rfl rfl rfl rfl rfl (op_notc rfl rfl ?_); intro c19 h19
      try replace h19 := nott h19 h18
      refine AOps.gt 20 rfl rfl rfl rfl rfl (op_move rfl rfl ?_)
      rcases bool_split h19 with ⟨rfl, g19⟩ | ⟨rfl, g19⟩
      · skip
        refine AOps.gf 21 rfl rfl rfl rfl rfl ?_
        refine AOps.gf 22 rfl rfl rfl rfl rfl ?_
        refine AOps.gf 23 rfl rfl rfl rfl rfl ?_
        refine AOps.gt 24 rfl rfl rfl rfl rfl (op_pick rfl rfl rfl ?_)
        refine AOps.st 25 rfl rfl rfl (op_pick rfl rfl rfl ?_)
        refine AOps.st 7 rfl rfl rfl (op_assign rfl rfl ?_)
        refine AOps.nil ?_
        refine BoolQ.mk rfl ?_ (by repeat' (first | exact SLe.wo _ _ | exact SLe.refl _ | refine SLe.fresh rfl ?_)) (by first | exact MLe.none _ | exact MLe.refl _ | (repeat' (first | exact MLe.nil | exact MLe.refl _ | refine MLe.cons _ ?_ | refine MLe.drop _ ?_)))
        simp_all; done
      · skip
        refine AOps.gt 21 rfl rfl rfl rfl rfl (op_fieldAddr_c rfl tf_46_2 rfl rfl ?_)
        refine AOps.gt 22 rfl rfl rfl rfl rfl (op_load_c1 rfl ta_3 rfl rfl ?_)
        refine AOps.gt 23 rfl rfl rfl rfl rfl (op_neq rfl rfl rfl ?_); intro c23 h23
        refine AOps.gt 24 rfl rfl rfl rfl rfl (op_pick rfl rfl rfl ?_)
        refine AOps.st 25 rfl rfl rfl (op_pick rfl rfl rfl ?_)
        refine AOps.st 7 rfl rfl rfl (op_assign rfl rfl ?_)
        refine AOps.nil ?_
        refine BoolQ.mk rfl ?_ (by repeat' (first | exact SLe.wo _ _ | exact SLe.refl _ | refine SLe.fresh rfl ?_)) (by first | exact MLe.none _ | exact MLe.refl _ | (repeat' (first | exact MLe.nil | exact MLe.refl _ | refine MLe.cons _ ?_ | refine MLe.drop _ ?_)))
        simp_all; done
    · skip
      refine AOps.gt 12 rfl rfl rfl rfl rfl (op_fieldAddr_c rfl tf_46_1 rfl rfl ?_)
      refine AOps.gt 13 rfl rfl rfl rfl rfl (op_load_c1 rfl ta_3 rfl rfl ?_)
      refine AOps.gt 14 rfl rfl rfl rfl rfl (op_neq rfl rfl rfl ?_); intro c14 h14
      refine AOps.st 15 rfl rfl rfl (op_pick rfl rfl rfl ?_)
      refine AOps.st 16 rfl rfl rfl (op_move rfl rfl ?_)
      rcases bool_split h14 with ⟨rfl, g14⟩ | ⟨rfl, g14⟩
      · skip
        refine AOps.gt 17 rfl rfl rfl rfl rfl (op_fieldAddr_c rfl tf_91_1 rfl rfl ?_)
        refine AOps.gt 18 rfl rfl rfl rfl rfl (op_load_c1 rfl ta_4 rfl rfl ?_)
        have h18 : (fb = true ↔ fb = true) := Iff.rfl
        refine AOps.gt 19 rfl rfl rfl rfl rfl (op_notc rfl rfl ?_); intro c19 h19
        try replace h19 := nott h19 h18
        refine AOps.gt 20 rfl rfl rfl rfl rfl (op_move rfl rfl ?_)
        rcases bool_split h19 with ⟨rfl, g19⟩ | ⟨rfl, g19⟩
        · skip
          refine AOps.gf 21 rfl rfl rfl rfl rfl ?_
          refine AOps.gf 22 rfl rfl rfl rfl rfl ?_
          refine AOps.gf 23 rfl rfl rfl rfl rfl ?_
          refine AOps.gt 24 rfl rfl rfl rfl rfl (op_pick rfl rfl rfl ?_)
          refine AOps.st 25 rfl rfl rfl (op_pick rfl rfl rfl ?_)
          refine AOps.st 7 rfl rfl rfl (op_assign rfl rfl ?_)
          refine AOps.nil ?_
          refine BoolQ.mk rfl ?_ (by repeat' (first | exact SLe.wo _ _ | exact SLe.refl _ | refine SLe.fresh rfl ?_)) (by first | exact MLe.none _ | exact MLe.refl _ | (repeat' (first | exact MLe.nil | exact MLe.refl _ | refine MLe.cons _ ?_ | refine MLe.drop _ ?_)))
          simp_all; done
        · skip
          refine AOps.gt 21 rfl rfl rfl rfl rfl (op_fieldAddr_c rfl tf_46_2 rfl rfl ?_)
          refine AOps.gt 22 rfl rfl rfl rfl rfl (op_load_c1 rfl ta_3 rfl rfl ?_)
          refine AOps.gt 23 rfl rfl rfl rfl rfl (op_neq rfl rfl rfl ?_); intro c23 h23
          refine AOps.gt 24 rfl rfl rfl rfl rfl (op_pick rfl rfl rfl ?_)
          refine AOps.st 25 rfl rfl rfl (op_pick rfl rfl rfl ?_)
          refine AOps.st 7 rfl rfl rfl (op_assign rfl rfl ?_)
          refine AOps.nil ?_
          refine BoolQ.mk rfl ?_ (by repeat' (first | exact SLe.wo _ _ | exact SLe.refl _ | refine SLe.fresh rfl ?_)) (by first | exact MLe.none _ | exact MLe.refl _ | (repeat' (first | exact MLe.nil | exact MLe.refl _ | refine MLe.cons _ ?_ | refine MLe.drop _ ?_)))
          simp_all; done
      · skip
        refine AOps.gf 17 rfl rfl rfl rfl rfl ?_
        refine AOps.gf 18 rfl rfl rfl rfl rfl ?_
        refine AOps.gf 19 rfl rfl rfl rfl rfl ?_
        refine AOps.gf 20 rfl rfl rfl rfl rfl ?_
        refine AOps.gu 21 rfl rfl rfl rfl rfl ?_
        refine AOps.gu 22 rfl rfl rfl rfl rfl ?_
        refine AOps.gu 23 rfl rfl rfl rfl rfl ?_
        refine AOps.gf 24 rfl rfl rfl rfl rfl ?_
        refine AOps.st 25 rfl rfl rfl (op_pick rfl rfl rfl ?_)
        refine AOps.st 7 rfl rfl rfl (op_assign rfl rfl ?_)
        refine AOps.nil ?_
        refine BoolQ.mk rfl ?_ (by repeat' (first | exact SLe.wo _ _ | exact SLe.refl _ | refine SLe.fresh rfl ?_)) (by first | exact MLe.none _ | exact MLe.refl _ | (repeat' (first | exact MLe.nil | exact MLe.refl _ | refine MLe.cons _ ?_ | refine MLe.drop _ ?_)))
        simp_all; done
  intro c7 h7
  refine go_code ?_
  rcases bool_split h7 with ⟨rfl, g7⟩ | ⟨rfl, g7⟩
  · refine c_cond_f rfl ?_
    refine c_seq ?_
    obtain ⟨e1, e2⟩ := Classical.not_not.1 g7
    refine c_bool 26 (¬ (fa = true → 0 ≤ a ∧ ((op = 10 → a < gl) ∧ (op ≠ 10 → a < sl)))) ?_ _ _ rfl ?_
    · skip
      refine AOps.st 27 rfl rfl rfl (op_fieldAddr_c rfl tf_91_0 rfl rfl ?_)
      refine AOps.st 28 rfl rfl rfl (op_load_c1 rfl ta_4 rfl rfl ?_)
      have h28 : (fa = true ↔ fa = true) := Iff.rfl
      refine AOps.st 29 rfl rfl rfl (op_move rfl rfl ?_)
      rcases bool_split h28 with ⟨rfl, g28⟩ | ⟨rfl, g28⟩
      · skip
        refine AOps.gf 30 rfl rfl rfl rfl rfl ?_
        refine AOps.gf 31 rfl rfl rfl rfl rfl ?_
        refine AOps.gf 32 rfl rfl rfl rfl rfl ?_
        refine AOps.st 33 rfl rfl rfl (op_pick rfl rfl rfl ?_)
        refine AOps.st 34 rfl rfl rfl (op_move rfl rfl ?_)
        refine AOps.gf 35 rfl rfl rfl rfl rfl ?_
        refine AOps.gf 36 rfl rfl rfl rfl rfl ?_
        refine AOps.gf 37 rfl rfl rfl rfl rfl ?_
        refine AOps.gf 38 rfl rfl rfl rfl rfl ?_
        refine AOps.gf 39 rfl rfl rfl rfl rfl ?_
        refine AOps.gf 40 rfl rfl rfl rfl rfl ?_
        refine AOps.gf 41 rfl rfl rfl rfl rfl ?_
        refine AOps.st 42 rfl rfl rfl (op_pick rfl rfl rfl ?_)
        refine AOps.st 43 rfl rfl rfl (op_move rfl rfl ?_)
        refine AOps.gt 44 rfl rfl rfl rfl rfl (op_fieldAddr_c rfl tf_91_0 rfl rfl ?_)
        refine AOps.gt 45 rfl rfl rfl rfl rfl (op_load_c1 rfl ta_4 rfl rfl ?_)
        refine AOps.gt 46 rfl rfl rfl rfl rfl (op_move rfl rfl ?_)
        refine AOps.gf 47 rfl rfl rfl rfl rfl ?_
        refine AOps.gf 48 rfl rfl rfl rfl rfl ?_
        refine AOps.gf 49 rfl rfl rfl rfl rfl ?_
        refine AOps.gt 50 rfl rfl rfl rfl rfl (op_pick rfl rfl rfl ?_)
        refine AOps.gt 51 rfl rfl rfl rfl rfl (op_move rfl rfl ?_)
        refine AOps.gf 52 rfl rfl rfl rfl rfl ?_
        refine AOps.gf 53 rfl rfl rfl rfl rfl ?_
        refine AOps.gf 54 rfl rfl rfl rfl rfl ?_
        refine AOps.gf 55 rfl rfl rfl rfl rfl ?_
        refine AOps.gf 56 rfl rfl rfl rfl rfl ?_
        refine AOps.gf 57 rfl rfl rfl rfl rfl ?_
        refine AOps.gf 58 rfl rfl rfl rfl rfl ?_
        refine AOps.gt 59 rfl rfl rfl rfl rfl (op_pick rfl rfl rfl ?_)
        refine AOps.st 60 rfl rfl rfl (op_pick rfl rfl rfl ?_)
        refine AOps.st 26 rfl rfl rfl (op_assign rfl rfl ?_)
        refine AOps.nil ?_
        refine BoolQ.mk rfl ?_ (by repeat' (first | exact SLe.wo _ _ | exact SLe.refl _ | refine SLe.fresh rfl ?_)) (by first | exact MLe.none _ | exact MLe.refl _ | (repeat' (first | exact MLe.nil | exact MLe.refl _ | refine MLe.cons _ ?_ | refine MLe.drop _ ?_)))
        simp_all; done
      · skip
        refine AOps.gt 30 rfl rfl rfl rfl rfl (op_fieldAddr_c rfl tf_46_0 rfl rfl ?_)
        refine AOps.gt 31 rfl rfl rfl rfl rfl (op_load_c1 rfl ta_3 rfl rfl ?_)
        refine AOps.gt 32 rfl rfl rfl rfl rfl (op_eql rfl rfl rfl ?_); intro c32 h32
        refine AOps.st 33 rfl rfl rfl (op_pick rfl rfl rfl ?_)
        refine AOps.st 34 rfl rfl rfl (op_move rfl rfl ?_)
        rcases bool_split h32 with ⟨rfl, g32⟩ | ⟨rfl, g32⟩
        · skip
          refine AOps.gf 35 rfl rfl rfl rfl rfl ?_
          refine AOps.gf 36 rfl rfl rfl rfl rfl ?_
          refine AOps.gf 37 rfl rfl rfl rfl rfl ?_
          refine AOps.gf 38 rfl rfl rfl rfl rfl ?_
          refine AOps.gf 39 rfl rfl rfl rfl rfl ?_
          refine AOps.gf 40 rfl rfl rfl rfl rfl ?_
          refine AOps.gf 41 rfl rfl rfl rfl rfl ?_
          refine AOps.st 42 rfl rfl rfl (op_pick rfl rfl rfl ?_)
          refine AOps.st 43 rfl rfl rfl (op_move rfl rfl ?_)
          refine AOps.gt 44 rfl rfl rfl rfl rfl (op_fieldAddr_c rfl tf_91_0 rfl rfl ?_)
          refine AOps.gt 45 rfl rfl rfl rfl rfl (op_load_c1 rfl ta_4 rfl rfl ?_)
          refine AOps.gt 46 rfl rfl rfl rfl rfl (op_move rfl rfl ?_)
          refine AOps.gt 47 rfl rfl rfl rfl rfl (op_fieldAddr_c rfl tf_46_0 rfl rfl ?_)
          refine AOps.gt 48 rfl rfl rfl rfl rfl (op_load_c1 rfl ta_3 rfl rfl ?_)
          refine AOps.gt 49 rfl rfl rfl rfl rfl (op_neq rfl rfl rfl ?_); intro c49 h49
          refine AOps.gt 50 rfl rfl rfl rfl rfl (op_pick rfl rfl rfl ?_)
          refine AOps.gt 51 rfl rfl rfl rfl rfl (op_move rfl rfl ?_)
          rcases bool_split h49 with ⟨rfl, g49⟩ | ⟨rfl, g49⟩
          · skip
            refine AOps.gf 52 rfl rfl rfl rfl rfl ?_
            refine AOps.gf 53 rfl rfl rfl rfl rfl ?_
            refine AOps.gf 54 rfl rfl rfl rfl rfl ?_
            refine AOps.gf 55 rfl rfl rfl rfl rfl ?_
            refine AOps.gf 56 rfl rfl rfl rfl rfl ?_
            refine AOps.gf 57 rfl rfl rfl rfl rfl ?_
            refine AOps.gf 58 rfl rfl rfl rfl rfl ?_
            refine AOps.gt 59 rfl rfl rfl rfl rfl (op_pick rfl rfl rfl ?_)
            refine AOps.st 60 rfl rfl rfl (op_pick rfl rfl rfl ?_)
            refine AOps.st 26 rfl rfl rfl (op_assign rfl rfl ?_)
            refine AOps.nil ?_
            refine BoolQ.mk rfl ?_ (by repeat' (first | exact SLe.wo _ _ | exact SLe.refl _ | refine SLe.fresh rfl ?_)) (by first | exact MLe.none _ | exact MLe.refl _ | (repeat' (first | exact MLe.nil | exact MLe.refl _ | refine MLe.cons _ ?_ | refine MLe.drop _ ?_)))
            simp_all; done
          · skip
            refine AOps.gt 52 rfl rfl rfl rfl rfl (op_fieldAddr_c rfl tf_46_1 rfl rfl ?_)
            refine AOps.gt 53 rfl rfl rfl rfl rfl (op_load_c1 rfl ta_3 rfl rfl ?_)
            refine AOps.gt 54 rfl rfl rfl rfl rfl (op_fieldAddr_c rfl tf_53_1 rfl rfl ?_)
            refine AOps.gt 55 rfl rfl rfl rfl rfl (op_fieldAddr_c rfl tf_39_1 rfl rfl ?_)
            refine AOps.gt 56 rfl rfl rfl rfl rfl (op_load_c1 rfl ta_3 rfl rfl ?_)
            refine AOps.gt 57 rfl rfl rfl rfl rfl (op_callb (xs := [.tmp 53, .tmp 56]) rfl rfl (within_c a sl) (by first | exact Les.refl _ | (repeat' (first | exact Les.refl _ | refine Les.cons ?_ ?_ | exact Le.refl _ | exact Le.own _ _ _ | exact Le.nil _ | refine Le.agg ?_))) ?_); intro c57 h57
            refine AOps.gt 58 rfl rfl rfl rfl rfl (op_notc rfl rfl ?_); intro c58 h58
            try replace h58 := nott h58 h57
            refine AOps.gt 59 rfl rfl rfl rfl rfl (op_pick rfl rfl rfl ?_)
            refine AOps.st 60 rfl rfl rfl (op_pick rfl rfl rfl ?_)
            refine AOps.st 26 rfl rfl rfl (op_assign rfl rfl ?_)
            refine AOps.nil ?_
            refine BoolQ.mk rfl ?_ (by repeat' (first | exact SLe.wo _ _ | exact SLe.refl _ | refine SLe.fresh rfl ?_)) (by first | exact MLe.none _ | exact MLe.refl _ | (repeat' (first | exact MLe.nil | exact MLe.refl _ | refine MLe.cons _ ?_ | refine MLe.drop _ ?_)))
            simp_all; done
        · skip
          refine AOps.gt 35 rfl rfl rfl rfl rfl (op_fieldAddr_c rfl tf_46_1 rfl rfl ?_)
          refine AOps.gt 36 rfl rfl rfl rfl rfl (op_load_c1 rfl ta_3 rfl rfl ?_)
          refine AOps.gt 37 rfl rfl rfl rfl rfl (op_fieldAddr_c rfl tf_53_0 rfl rfl ?_)
          refine AOps.gt 38 rfl rfl rfl rfl rfl (op_fieldAddr_c rfl tf_26_3 rfl rfl ?_)
          refine AOps.gt 39 rfl rfl rfl rfl rfl (op_load_c1 rfl ta_3 rfl rfl ?_)
          refine AOps.gt 40 rfl rfl rfl rfl rfl (op_callb (xs := [.tmp 36, .tmp 39]) rfl rfl (within_c a gl) (by first | exact Les.refl _ | (repeat' (first | exact Les.refl _ | refine Les.cons ?_ ?_ | exact Le.refl _ | exact Le.own _ _ _ | exact Le.nil _ | refine Le.agg ?_))) ?_); intro c40 h40
          refine AOps.gt 41 rfl rfl rfl rfl rfl (op_notc rfl rfl ?_); intro c41 h41
          try replace h41 := nott h41 h40
          refine AOps.st 42 rfl rfl rfl (op_pick rfl rfl rfl ?_)
          refine AOps.st 43 rfl rfl rfl (op_move rfl rfl ?_)
          rcases bool_split h41 with ⟨rfl, g41⟩ | ⟨rfl, g41⟩
          · skip
            refine AOps.gt 44 rfl rfl rfl rfl rfl (op_fieldAddr_c rfl tf_91_0 rfl rfl ?_)
            refine AOps.gt 45 rfl rfl rfl rfl rfl (op_load_c1 rfl ta_4 rfl rfl ?_)
            refine AOps.gt 46 rfl rfl rfl rfl rfl (op_move rfl rfl ?_)
            refine AOps.gt 47 rfl rfl rfl rfl rfl (op_fieldAddr_c rfl tf_46_0 rfl rfl ?_)
            refine AOps.gt 48 rfl rfl rfl rfl rfl (op_load_c1 rfl ta_3 rfl rfl ?_)
            refine AOps.gt 49 rfl rfl rfl rfl rfl (op_neq rfl rfl rfl ?_); intro c49 h49
            refine AOps.gt 50 rfl rfl rfl rfl rfl (op_pick rfl rfl rfl ?_)
            refine AOps.gt 51 rfl rfl rfl rfl rfl (op_move rfl rfl ?_)
            rcases bool_split h49 with ⟨rfl, g49⟩ | ⟨rfl, g49⟩
            · skip
              refine AOps.gf 52 rfl rfl rfl rfl rfl ?_
              refine AOps.gf 53 rfl rfl rfl rfl rfl ?_
              refine AOps.gf 54 rfl rfl rfl rfl rfl ?_
              refine AOps.gf 55 rfl rfl rfl rfl rfl ?_
              refine AOps.gf 56 rfl rfl rfl rfl rfl ?_
              refine AOps.gf 57 rfl rfl rfl rfl rfl ?_
              refine AOps.gf 58 rfl rfl rfl rfl rfl ?_
              refine AOps.gt 59 rfl rfl rfl rfl rfl (op_pick rfl rfl rfl ?_)
              refine AOps.st 60 rfl rfl rfl (op_pick rfl rfl rfl ?_)
              refine AOps.st 26 rfl rfl rfl (op_assign rfl rfl ?_)
              refine AOps.nil ?_
              refine BoolQ.mk rfl ?_ (by repeat' (first | exact SLe.wo _ _ | exact SLe.refl _ | refine SLe.fresh rfl ?_)) (by first | exact MLe.none _ | exact MLe.refl _ | (repeat' (first | exact MLe.nil | exact MLe.refl _ | refine MLe.cons _ ?_ | refine MLe.drop _ ?_)))
              simp_all; done
            · skip
              refine AOps.gt 52 rfl rfl rfl rfl rfl (op_fieldAddr_c rfl tf_46_1 rfl rfl ?_)
              refine AOps.gt 53 rfl rfl rfl rfl rfl (op_load_c1 rfl ta_3 rfl rfl ?_)
              refine AOps.gt 54 rfl rfl rfl rfl rfl (op_fieldAddr_c rfl tf_53_1 rfl rfl ?_)
              refine AOps.gt 55 rfl rfl rfl rfl rfl (op_fieldAddr_c rfl tf_39_1 rfl rfl ?_)
              refine AOps.gt 56 rfl rfl rfl rfl rfl (op_load_c1 rfl ta_3 rfl rfl ?_)
              refine AOps.gt 57 rfl rfl rfl rfl rfl (op_callb (xs := [.tmp 53, .tmp 56]) rfl rfl (within_c a sl) (by first | exact Les.refl _ | (repeat' (first | exact Les.refl _ | refine Les.cons ?_ ?_ | exact Le.refl _ | exact Le.own _ _ _ | exact Le.nil _ | refine Le.agg ?_))) ?_); intro c57 h57
              refine AOps.gt 58 rfl rfl rfl rfl rfl (op_notc rfl rfl ?_); intro c58 h58
              try replace h58 := nott h58 h57
              refine AOps.gt 59 rfl rfl rfl rfl rfl (op_pick rfl rfl rfl ?_)
              refine AOps.st 60 rfl rfl rfl (op_pick rfl rfl rfl ?_)
              refine AOps.st 26 rfl rfl rfl (op_assign rfl rfl ?_)
              refine AOps.nil ?_
              refine BoolQ.mk rfl ?_ (by repeat' (first | exact SLe.wo _ _ | exact SLe.refl _ | refine SLe.fresh rfl ?_)) (by first | exact MLe.none _ | exact MLe.refl _ | (repeat' (first | exact MLe.nil | exact MLe.refl _ | refine MLe.cons _ ?_ | refine MLe.drop _ ?_)))
              simp_all; done
          · skip
            refine AOps.gf 44 rfl rfl rfl rfl rfl ?_
            refine AOps.gf 45 rfl rfl rfl rfl rfl ?_
            refine AOps.gf 46 rfl rfl rfl rfl rfl ?_
            refine AOps.gu 47 rfl rfl rfl rfl rfl ?_
            refine AOps.gu 48 rfl rfl rfl rfl rfl ?_
            refine AOps.gu 49 rfl rfl rfl rfl rfl ?_
            refine AOps.gf 50 rfl rfl rfl rfl rfl ?_
            refine AOps.gf 51 rfl rfl rfl rfl rfl ?_
            refine AOps.gu 52 rfl rfl rfl rfl rfl ?_
            refine AOps.gu 53 rfl rfl rfl rfl rfl ?_
            refine AOps.gu 54 rfl rfl rfl rfl rfl ?_
            refine AOps.gu 55 rfl rfl rfl rfl rfl ?_
            refine AOps.gu 56 rfl rfl rfl rfl rfl ?_
            refine AOps.gu 57 rfl rfl rfl rfl rfl ?_
            refine AOps.gu 58 rfl rfl rfl rfl rfl ?_
            refine AOps.gf 59 rfl rfl rfl rfl rfl ?_
            refine AOps.st 60 rfl rfl rfl (op_pick rfl rfl rfl ?_)
            refine AOps.st 26 rfl rfl rfl (op_assign rfl rfl ?_)
            refine AOps.nil ?_
            refine BoolQ.mk rfl ?_ (by repeat' (first | exact SLe.wo _ _ | exact SLe.refl _ | refine SLe.fresh rfl ?_)) (by first | exact MLe.none _ | exact MLe.refl _ | (repeat' (first | exact MLe.nil | exact MLe.refl _ | refine MLe.cons _ ?_ | refine MLe.drop _ ?_)))
            simp_all; done
    intro c26 h26
    refine go_code ?_
    rcases bool_split h26 with ⟨rfl, g26⟩ | ⟨rfl, g26⟩
    · refine c_cond_f rfl ?_
      refine c_seq ?_
      have e3 := Classical.not_not.1 g26
      refine c_bool 61 (fb = true ∧ op = 2) ?_ _ _ rfl ?_
      · skip
        refine AOps.st 62 rfl rfl rfl (op_fieldAddr_c rfl tf_91_1 rfl rfl ?_)
        refine AOps.st 63 rfl rfl rfl (op_load_c1 rfl ta_4 rfl rfl ?_)
        have h63 : (fb = true ↔ fb = true) := Iff.rfl
        refine AOps.st 64 rfl rfl rfl (op_move rfl rfl ?_)
        rcases bool_split h63 with ⟨rfl, g63⟩ | ⟨rfl, g63⟩
        · skip
          refine AOps.gf 65 rfl rfl rfl rfl rfl ?_
          refine AOps.gf 66 rfl rfl rfl rfl rfl ?_
          refine AOps.gf 67 rfl rfl rfl rfl rfl ?_
          refine AOps.st 68 rfl rfl rfl (op_pick rfl rfl rfl ?_)
          refine AOps.st 61 rfl rfl rfl (op_assign rfl rfl ?_)
          refine AOps.nil ?_
          refine BoolQ.mk rfl ?_ (by repeat' (first | exact SLe.wo _ _ | exact SLe.refl _ | refine SLe.fresh rfl ?_)) (by first | exact MLe.none _ | exact MLe.refl _ | (repeat' (first | exact MLe.nil | exact MLe.refl _ | refine MLe.cons _ ?_ | refine MLe.drop _ ?_)))
          simp_all; done
        · skip
          refine AOps.gt 65 rfl rfl rfl rfl rfl (op_fieldAddr_c rfl tf_46_0 rfl rfl ?_)
          refine AOps.gt 66 rfl rfl rfl rfl rfl (op_load_c1 rfl ta_3 rfl rfl ?_)
          refine AOps.gt 67 rfl rfl rfl rfl rfl (op_eql rfl rfl rfl ?_); intro c67 h67
          refine AOps.st 68 rfl rfl rfl (op_pick rfl rfl rfl ?_)
          refine AOps.st 61 rfl rfl rfl (op_assign rfl rfl ?_)
          refine AOps.nil ?_
          refine BoolQ.mk rfl ?_ (by repeat' (first | exact SLe.wo _ _ | exact SLe.refl _ | refine SLe.fresh rfl ?_)) (by first | exact MLe.none _ | exact MLe.refl _ | (repeat' (first | exact MLe.nil | exact MLe.refl _ | refine MLe.cons _ ?_ | refine MLe.drop _ ?_)))
          simp_all; done
      intro c61 h61
      refine go_code ?_
      rcases bool_split h61 with ⟨rfl, g61⟩ | ⟨rfl, g61⟩
      · refine c_cond_f rfl ?_
        refine c_seq ?_
        refine c_region ?_
        refine AOps.st 77 rfl rfl rfl (op_fieldAddr_c rfl tf_91_1 rfl rfl ?_)
        refine AOps.st 78 rfl rfl rfl (op_load_c1 rfl ta_4 rfl rfl ?_)
        have h78 : (fb = true ↔ fb = true) := Iff.rfl
        refine AOps.st 76 rfl rfl rfl (op_assign rfl rfl ?_)
        refine AOps.nil ?_
        refine go_code ?_
        rcases bool_split h78 with ⟨rfl, g78⟩ | ⟨rfl, g78⟩
        · refine c_cond_f rfl ?_
          refine c_skip ?_
          refine go_blk ?_
          refine go_code ?_
          refine c_seq ?_
          refine c_region ?_
          refine AOps.st 6 rfl rfl rfl (op_assign rfl rfl ?_)
          refine AOps.nil ?_
          refine go_code ?_
          refine c_ret ?_
          exact out_tmp rfl rfl (Le.refl _) (by first | exact MLe.none _ | exact MLe.refl _ | (repeat' (first | exact MLe.nil | exact MLe.refl _ | refine MLe.cons _ ?_ | refine MLe.drop _ ?_))) ⟨⟨_, iff_t ⟨e1, e2, e3, fun q => by cases q⟩, rfl⟩, rfl⟩
        · refine c_cond_t rfl ?_
          refine c_seq ?_
          refine c_bool 6 (fr ≤ b ∧ b < to) ?_ _ _ rfl ?_
          · skip
            refine AOps.st 79 rfl rfl rfl (op_fieldAddr_c rfl tf_46_2 rfl rfl ?_)
            refine AOps.st 80 rfl rfl rfl (op_load_c1 rfl ta_3 rfl rfl ?_)
            refine AOps.st 81 rfl rfl rfl (op_fieldAddr_c rfl tf_53_2 rfl rfl ?_)
            refine AOps.st 82 rfl rfl rfl (op_load_c1 rfl ta_3 rfl rfl ?_)
            refine AOps.st 83 rfl rfl rfl (op_geq rfl rfl rfl ?_); intro c83 h83
            refine AOps.st 84 rfl rfl rfl (op_move rfl rfl ?_)
            rcases bool_split h83 with ⟨rfl, g83⟩ | ⟨rfl, g83⟩
            · skip
              refine AOps.gf 85 rfl rfl rfl rfl rfl ?_
              refine AOps.gf 86 rfl rfl rfl rfl rfl ?_
              refine AOps.gf 87 rfl rfl rfl rfl rfl ?_
              refine AOps.gf 88 rfl rfl rfl rfl rfl ?_
              refine AOps.gf 89 rfl rfl rfl rfl rfl ?_
              refine AOps.st 90 rfl rfl rfl (op_pick rfl rfl rfl ?_)
              refine AOps.st 6 rfl rfl rfl (op_assign rfl rfl ?_)
              refine AOps.nil ?_
              refine BoolQ.mk rfl ?_ (by repeat' (first | exact SLe.wo _ _ | exact SLe.refl _ | refine SLe.fresh rfl ?_)) (by first | exact MLe.none _ | exact MLe.refl _ | (repeat' (first | exact MLe.nil | exact MLe.refl _ | refine MLe.cons _ ?_ | refine MLe.drop _ ?_)))
              first | (simp_all; done) | (simp_all; omega)
            · skip
              refine AOps.gt 85 rfl rfl rfl rfl rfl (op_fieldAddr_c rfl tf_46_2 rfl rfl ?_)
              refine AOps.gt 86 rfl rfl rfl rfl rfl (op_load_c1 rfl ta_3 rfl rfl ?_)
              refine AOps.gt 87 rfl rfl rfl rfl rfl (op_fieldAddr_c rfl tf_53_3 rfl rfl ?_)
              refine AOps.gt 88 rfl rfl rfl rfl rfl (op_load_c1 rfl ta_3 rfl rfl ?_)
              refine AOps.gt 89 rfl rfl rfl rfl rfl (op_lss rfl rfl rfl ?_); intro c89 h89
              refine AOps.st 90 rfl rfl rfl (op_pick rfl rfl rfl ?_)
              refine AOps.st 6 rfl rfl rfl (op_assign rfl rfl ?_)
              refine AOps.nil ?_
              refine BoolQ.mk rfl ?_ (by repeat' (first | exact SLe.wo _ _ | exact SLe.refl _ | refine SLe.fresh rfl ?_)) (by first | exact MLe.none _ | exact MLe.refl _ | (repeat' (first | exact MLe.nil | exact MLe.refl _ | refine MLe.cons _ ?_ | refine MLe.drop _ ?_)))
              simp_all; done
          intro c6 h6
          refine go_code ?_
          refine c_ret ?_
          exact out_tmp rfl rfl (Le.refl _) (by first | exact MLe.none _ | exact MLe.refl _ | (repeat' (first | exact MLe.nil | exact MLe.refl _ | refine MLe.cons _ ?_ | refine MLe.drop _ ?_))) ⟨⟨_, h6.trans ⟨fun q => ⟨e1, e2, e3, fun _ => ⟨fun q' => absurd ⟨rfl, q'⟩ g61, fun _ => q⟩⟩, fun q => (q.2.2.2 rfl).2 (fun q' => g61 ⟨rfl, q'⟩)⟩, rfl⟩, rfl⟩
      · refine c_cond_t rfl ?_
        refine c_seq ?_
        refine c_region ?_
        refine AOps.st 69 rfl rfl rfl (op_fieldAddr_c rfl tf_46_2 rfl rfl ?_)
        refine AOps.st 70 rfl rfl rfl (op_load_c1 rfl ta_3 rfl rfl ?_)
        refine AOps.st 71 rfl rfl rfl (op_fieldAddr_c rfl tf_53_0 rfl rfl ?_)
        refine AOps.st 72 rfl rfl rfl (op_fieldAddr_c rfl tf_26_2 rfl rfl ?_)
        refine AOps.st 73 rfl rfl rfl (op_load_c1 rfl ta_24 rfl rfl ?_)
        refine AOps.st 74 rfl rfl rfl (op_len rfl tu_24 rfl (.seq _ _) (fun n74 => ?_))
        refine AOps.st 75 rfl rfl rfl (op_callb (xs := [.tmp 70, .tmp 74]) rfl rfl (within_c b (strs tx).length) (by first | exact Les.refl _ | (repeat' (first | exact Les.refl _ | refine Les.cons ?_ ?_ | exact Le.refl _ | exact Le.own _ _ _ | exact Le.nil _ | refine Le.agg ?_))) ?_); intro c75 h75
        refine AOps.st 6 rfl rfl rfl (op_assign rfl rfl ?_)
        refine AOps.nil ?_
        refine go_code ?_
        refine c_ret ?_
        exact out_tmp rfl rfl (Le.refl _) (by first | exact MLe.none _ | exact MLe.refl _ | (repeat' (first | exact MLe.nil | exact MLe.refl _ | refine MLe.cons _ ?_ | refine MLe.drop _ ?_))) ⟨⟨_, h75.trans (by rw [hlt]; obtain ⟨q1, q2⟩ := g61; exact ⟨fun q => ⟨e1, e2, e3, fun _ => ⟨fun _ => q, fun q' => absurd q2 q'⟩⟩, fun q => (q.2.2.2 q1).1 q2⟩), rfl⟩, rfl⟩
    · refine c_cond_t rfl ?_
      refine c_seq ?_
      refine c_region ?_
      refine AOps.st 6 rfl rfl rfl (op_assign rfl rfl ?_)
      refine AOps.nil ?_
      refine go_code ?_
      refine c_ret ?_
      exact out_tmp rfl rfl (Le.refl _) (by first | exact MLe.none _ | exact MLe.refl _ | (repeat' (first | exact MLe.nil | exact MLe.refl _ | refine MLe.cons _ ?_ | refine MLe.drop _ ?_))) ⟨⟨_, iff_f (fun e => g26 e.2.2.1), rfl⟩, rfl⟩
  · refine c_cond_t rfl ?_
    refine c_seq ?_
    refine c_region ?_
    refine AOps.st 6 rfl rfl rfl (op_assign rfl rfl ?_)
    refine AOps.nil ?_
    refine go_code ?_
    refine c_ret ?_
    exact out_tmp rfl rfl (Le.refl _) (by first | exact MLe.none _ | exact MLe.refl _ | (repeat' (first | exact MLe.nil | exact MLe.refl _ | refine MLe.cons _ ?_ | refine MLe.drop _ ?_))) ⟨⟨_, iff_f (fun e => g7 ⟨e.1, e.2.1⟩), rfl⟩, rfl⟩
end Go.Proofs.Ytadhakcmfkghbaa
