/- cognateref29.Has, in, rightAtom, rightAtoms; cognateref19.Takes -/
import Derived.Test.YtadhakcmfkghbaaB29i
import Derived.Test.YtadhakcmfkghbaaPB2
namespace Go.Proofs.Ytadhakcmfkghbaa
open Go.RowKit
theorem ACall.bal {P : Program} {f : FuncId} {vs : List AV} {p q : Prop} (h : BCall P f vs p) (e : p ↔ q) : BCall P f vs q :=
  h.mono (by rintro v M' ⟨⟨c, hc, rfl⟩, rfl⟩; exact ⟨⟨c, hc.trans e, rfl⟩, rfl⟩)
def hasT (op : Int) : ByteArray := if op = 1 ∨ op = 10 then ⟨#[97, 49]⟩ else if op = 2 then ⟨#[97, 98]⟩ else if op = 3 ∨ op = 8 then ⟨#[97, 110, 108]⟩ else if op = 4 then ⟨#[97, 102]⟩ else if op = 5 then ⟨#[97, 50]⟩ else if op = 6 then ⟨#[50]⟩ else if op = 7 ∨ op = 11 then ⟨#[49]⟩ else if op = 9 then ⟨#[97, 110, 49]⟩ else if op = 12 then ⟨#[110]⟩ else if op = 13 then ⟨#[115, 98]⟩ else if op = 14 then ⟨#[98]⟩ else if op = 15 then ⟨#[45]⟩ else ⟨#[]⟩
def inP (s : ByteArray) (c : UInt8) : Prop := c ∈ s.data.toList
theorem op_cases (op : Int) : op = 1 ∨ op = 2 ∨ op = 3 ∨ op = 4 ∨ op = 5 ∨ op = 6 ∨ op = 7 ∨ op = 8 ∨ op = 9 ∨ op = 10 ∨ op = 11 ∨ op = 12 ∨ op = 13 ∨ op = 14 ∨ op = 15 ∨ ¬ (1 ≤ op ∧ op ≤ 15) := by omega
theorem has_no {op : Int} (h : ¬ (1 ≤ op ∧ op ≤ 15)) : hasT op = ⟨#[]⟩ := by
  unfold hasT
  rw [if_neg (by omega), if_neg (by omega), if_neg (by omega), if_neg (by omega), if_neg (by omega), if_neg (by omega), if_neg (by omega), if_neg (by omega), if_neg (by omega), if_neg (by omega), if_neg (by omega), if_neg (by omega)]
theorem has_e (op : Int) : hasT op = ⟨#[]⟩ ↔ ¬ (1 ≤ op ∧ op ≤ 15) := by
  rcases op_cases op with rfl | rfl | rfl | rfl | rfl | rfl | rfl | rfl | rfl | rfl | rfl | rfl | rfl | rfl | rfl | h
  all_goals first | (rw [has_no h]; exact ⟨fun _ => h, fun _ => rfl⟩) | simp [hasT]
theorem has_a (op : Int) : inP (hasT op) 97 ↔ opA op = true := by
  rw [opA_iff]
  unfold inP
  rcases op_cases op with rfl | rfl | rfl | rfl | rfl | rfl | rfl | rfl | rfl | rfl | rfl | rfl | rfl | rfl | rfl | h
  all_goals first | (rw [has_no h]; simp; omega) | (simp [hasT]; done)
theorem has_b (op : Int) : inP (hasT op) 98 ↔ opB op = true := by
  rw [opB_iff]
  unfold inP
  rcases op_cases op with rfl | rfl | rfl | rfl | rfl | rfl | rfl | rfl | rfl | rfl | rfl | rfl | rfl | rfl | rfl | h
  all_goals first | (rw [has_no h]; simp; omega) | (simp [hasT]; done)
theorem has_n (op : Int) : inP (hasT op) 110 ↔ (op = 3 ∨ op = 8 ∨ op = 9 ∨ op = 12) := by
  unfold inP
  rcases op_cases op with rfl | rfl | rfl | rfl | rfl | rfl | rfl | rfl | rfl | rfl | rfl | rfl | rfl | rfl | rfl | h
  all_goals first | (rw [has_no h]; simp; omega) | (simp [hasT]; done)
theorem has_s (op : Int) : inP (hasT op) 115 ↔ op = 13 := by
  unfold inP
  rcases op_cases op with rfl | rfl | rfl | rfl | rfl | rfl | rfl | rfl | rfl | rfl | rfl | rfl | rfl | rfl | rfl | h
  all_goals first | (rw [has_no h]; simp; omega) | (simp [hasT]; done)
theorem has_1 (op : Int) : inP (hasT op) 49 ↔ one1 op := by
  unfold one1
  unfold inP
  rcases op_cases op with rfl | rfl | rfl | rfl | rfl | rfl | rfl | rfl | rfl | rfl | rfl | rfl | rfl | rfl | rfl | h
  all_goals first | (rw [has_no h]; simp; omega) | (simp [hasT]; done)
theorem has_2 (op : Int) : inP (hasT op) 50 ↔ two2 op := by
  unfold two2
  unfold inP
  rcases op_cases op with rfl | rfl | rfl | rfl | rfl | rfl | rfl | rfl | rfl | rfl | rfl | rfl | rfl | rfl | rfl | h
  all_goals first | (rw [has_no h]; simp; omega) | (simp [hasT]; done)
theorem has_l (op : Int) : inP (hasT op) 108 ↔ lst3 op := by
  unfold lst3
  unfold inP
  rcases op_cases op with rfl | rfl | rfl | rfl | rfl | rfl | rfl | rfl | rfl | rfl | rfl | rfl | rfl | rfl | rfl | h
  all_goals first | (rw [has_no h]; simp; omega) | (simp [hasT]; done)
set_option maxHeartbeats 4000000 in
set_option maxRecDepth 100000 in
theorem Has29_c (op : Int) : PCall Try.prog 47 [.val (.int .i64 op)] (.val (.string (hasT op))) := by
  refine ACall.enter Try.func47 rfl (by kernel_rfl) rfl (Nat.le_of_ble_eq_true rfl) ?_
  refine c_start ?_
  refine c_seq ?_
  refine c_region ?_
  refine AOps.st 2 rfl rfl rfl (op_assign rfl rfl ?_)
  refine AOps.nil ?_
  refine go_code ?_
  refine c_seq ?_
  refine c_seq ?_
  refine c_region ?_
  refine AOps.st 3 rfl rfl rfl (op_move rfl rfl ?_)
  refine AOps.nil ?_
  refine go_code ?_
  refine c_block ?_
  refine c_seq ?_
  refine c_seq ?_
  refine c_region ?_
  refine AOps.st 5 rfl rfl rfl (op_eql rfl rfl rfl ?_); intro c5 h5
  refine AOps.st 4 rfl rfl rfl (op_assign rfl rfl ?_)
  refine AOps.nil ?_
  refine go_code ?_
  rcases bool_split h5 with ⟨rfl, g5⟩ | ⟨rfl, g5⟩
  · refine c_cond_f rfl ?_
    refine c_region ?_
    refine AOps.st 6 rfl rfl rfl (op_eql rfl rfl rfl ?_); intro c6 h6
    refine AOps.st 4 rfl rfl rfl (op_assign rfl rfl ?_)
    refine AOps.nil ?_
    refine go_code ?_
    rcases bool_split h6 with ⟨rfl, g6⟩ | ⟨rfl, g6⟩
    · refine c_cond_f rfl ?_
      refine c_seq ?_
      refine c_region ?_
      refine AOps.st 8 rfl rfl rfl (op_eql rfl rfl rfl ?_); intro c8 h8
      refine AOps.st 7 rfl rfl rfl (op_assign rfl rfl ?_)
      refine AOps.nil ?_
      refine go_code ?_
      rcases bool_split h8 with ⟨rfl, g8⟩ | ⟨rfl, g8⟩
      · refine c_cond_f rfl ?_
        refine c_seq ?_
        refine c_seq ?_
        refine c_region ?_
        refine AOps.st 10 rfl rfl rfl (op_eql rfl rfl rfl ?_); intro c10 h10
        refine AOps.st 9 rfl rfl rfl (op_assign rfl rfl ?_)
        refine AOps.nil ?_
        refine go_code ?_
        rcases bool_split h10 with ⟨rfl, g10⟩ | ⟨rfl, g10⟩
        · refine c_cond_f rfl ?_
          refine c_region ?_
          refine AOps.st 11 rfl rfl rfl (op_eql rfl rfl rfl ?_); intro c11 h11
          refine AOps.st 9 rfl rfl rfl (op_assign rfl rfl ?_)
          refine AOps.nil ?_
          refine go_code ?_
          rcases bool_split h11 with ⟨rfl, g11⟩ | ⟨rfl, g11⟩
          · refine c_cond_f rfl ?_
            refine c_seq ?_
            refine c_region ?_
            refine AOps.st 13 rfl rfl rfl (op_eql rfl rfl rfl ?_); intro c13 h13
            refine AOps.st 12 rfl rfl rfl (op_assign rfl rfl ?_)
            refine AOps.nil ?_
            refine go_code ?_
            rcases bool_split h13 with ⟨rfl, g13⟩ | ⟨rfl, g13⟩
            · refine c_cond_f rfl ?_
              refine c_seq ?_
              refine c_region ?_
              refine AOps.st 15 rfl rfl rfl (op_eql rfl rfl rfl ?_); intro c15 h15
              refine AOps.st 14 rfl rfl rfl (op_assign rfl rfl ?_)
              refine AOps.nil ?_
              refine go_code ?_
              rcases bool_split h15 with ⟨rfl, g15⟩ | ⟨rfl, g15⟩
              · refine c_cond_f rfl ?_
                refine c_seq ?_
                refine c_region ?_
                refine AOps.st 17 rfl rfl rfl (op_eql rfl rfl rfl ?_); intro c17 h17
                refine AOps.st 16 rfl rfl rfl (op_assign rfl rfl ?_)
                refine AOps.nil ?_
                refine go_code ?_
                rcases bool_split h17 with ⟨rfl, g17⟩ | ⟨rfl, g17⟩
                · refine c_cond_f rfl ?_
                  refine c_seq ?_
                  refine c_seq ?_
                  refine c_region ?_
                  refine AOps.st 19 rfl rfl rfl (op_eql rfl rfl rfl ?_); intro c19 h19
                  refine AOps.st 18 rfl rfl rfl (op_assign rfl rfl ?_)
                  refine AOps.nil ?_
                  refine go_code ?_
                  rcases bool_split h19 with ⟨rfl, g19⟩ | ⟨rfl, g19⟩
                  · refine c_cond_f rfl ?_
                    refine c_region ?_
                    refine AOps.st 20 rfl rfl rfl (op_eql rfl rfl rfl ?_); intro c20 h20
                    refine AOps.st 18 rfl rfl rfl (op_assign rfl rfl ?_)
                    refine AOps.nil ?_
                    refine go_code ?_
                    rcases bool_split h20 with ⟨rfl, g20⟩ | ⟨rfl, g20⟩
                    · refine c_cond_f rfl ?_
                      refine c_seq ?_
                      refine c_region ?_
                      refine AOps.st 22 rfl rfl rfl (op_eql rfl rfl rfl ?_); intro c22 h22
                      refine AOps.st 21 rfl rfl rfl (op_assign rfl rfl ?_)
                      refine AOps.nil ?_
                      refine go_code ?_
                      rcases bool_split h22 with ⟨rfl, g22⟩ | ⟨rfl, g22⟩
                      · refine c_cond_f rfl ?_
                        refine c_seq ?_
                        refine c_region ?_
                        refine AOps.st 24 rfl rfl rfl (op_eql rfl rfl rfl ?_); intro c24 h24
                        refine AOps.st 23 rfl rfl rfl (op_assign rfl rfl ?_)
                        refine AOps.nil ?_
                        refine go_code ?_
                        rcases bool_split h24 with ⟨rfl, g24⟩ | ⟨rfl, g24⟩
                        · refine c_cond_f rfl ?_
                          refine c_seq ?_
                          refine c_region ?_
                          refine AOps.st 26 rfl rfl rfl (op_eql rfl rfl rfl ?_); intro c26 h26
                          refine AOps.st 25 rfl rfl rfl (op_assign rfl rfl ?_)
                          refine AOps.nil ?_
                          refine go_code ?_
                          rcases bool_split h26 with ⟨rfl, g26⟩ | ⟨rfl, g26⟩
                          · refine c_cond_f rfl ?_
                            refine c_seq ?_
                            refine c_region ?_
                            refine AOps.st 28 rfl rfl rfl (op_eql rfl rfl rfl ?_); intro c28 h28
                            refine AOps.st 27 rfl rfl rfl (op_assign rfl rfl ?_)
                            refine AOps.nil ?_
                            refine go_code ?_
                            rcases bool_split h28 with ⟨rfl, g28⟩ | ⟨rfl, g28⟩
                            · refine c_cond_f rfl ?_
                              refine c_seq ?_
                              refine c_region ?_
                              refine AOps.st 30 rfl rfl rfl (op_eql rfl rfl rfl ?_); intro c30 h30
                              refine AOps.st 29 rfl rfl rfl (op_assign rfl rfl ?_)
                              refine AOps.nil ?_
                              refine go_code ?_
                              rcases bool_split h30 with ⟨rfl, g30⟩ | ⟨rfl, g30⟩
                              · refine c_cond_f rfl ?_
                                refine c_skip ?_
                                refine go_blk ?_
                                refine go_code ?_
                                refine c_seq ?_
                                refine c_region ?_
                                refine AOps.st 2 rfl rfl rfl (op_assign rfl rfl ?_)
                                refine AOps.nil ?_
                                refine go_code ?_
                                refine c_ret ?_
                                refine out_tmp rfl rfl ?_ (by first | exact MLe.none _ | exact MLe.refl _ | (repeat' (first | exact MLe.nil | exact MLe.refl _ | refine MLe.cons _ ?_ | refine MLe.drop _ ?_))) ⟨rfl, rfl⟩
                                first | (subst_vars; exact Le.refl _) | (rw [has_no (by omega)]; exact Le.refl _)
                              · refine c_cond_t rfl ?_
                                refine c_seq ?_
                                refine c_region ?_
                                refine AOps.st 2 rfl rfl rfl (op_assign rfl rfl ?_)
                                refine AOps.nil ?_
                                refine go_code ?_
                                refine c_ret ?_
                                refine out_tmp rfl rfl ?_ (by first | exact MLe.none _ | exact MLe.refl _ | (repeat' (first | exact MLe.nil | exact MLe.refl _ | refine MLe.cons _ ?_ | refine MLe.drop _ ?_))) ⟨rfl, rfl⟩
                                subst_vars; exact Le.refl _
                            · refine c_cond_t rfl ?_
                              refine c_seq ?_
                              refine c_region ?_
                              refine AOps.st 2 rfl rfl rfl (op_assign rfl rfl ?_)
                              refine AOps.nil ?_
                              refine go_code ?_
                              refine c_ret ?_
                              refine out_tmp rfl rfl ?_ (by first | exact MLe.none _ | exact MLe.refl _ | (repeat' (first | exact MLe.nil | exact MLe.refl _ | refine MLe.cons _ ?_ | refine MLe.drop _ ?_))) ⟨rfl, rfl⟩
                              subst_vars; exact Le.refl _
                          · refine c_cond_t rfl ?_
                            refine c_seq ?_
                            refine c_region ?_
                            refine AOps.st 2 rfl rfl rfl (op_assign rfl rfl ?_)
                            refine AOps.nil ?_
                            refine go_code ?_
                            refine c_ret ?_
                            refine out_tmp rfl rfl ?_ (by first | exact MLe.none _ | exact MLe.refl _ | (repeat' (first | exact MLe.nil | exact MLe.refl _ | refine MLe.cons _ ?_ | refine MLe.drop _ ?_))) ⟨rfl, rfl⟩
                            subst_vars; exact Le.refl _
                        · refine c_cond_t rfl ?_
                          refine c_seq ?_
                          refine c_region ?_
                          refine AOps.st 2 rfl rfl rfl (op_assign rfl rfl ?_)
                          refine AOps.nil ?_
                          refine go_code ?_
                          refine c_ret ?_
                          refine out_tmp rfl rfl ?_ (by first | exact MLe.none _ | exact MLe.refl _ | (repeat' (first | exact MLe.nil | exact MLe.refl _ | refine MLe.cons _ ?_ | refine MLe.drop _ ?_))) ⟨rfl, rfl⟩
                          subst_vars; exact Le.refl _
                      · refine c_cond_t rfl ?_
                        refine c_seq ?_
                        refine c_region ?_
                        refine AOps.st 2 rfl rfl rfl (op_assign rfl rfl ?_)
                        refine AOps.nil ?_
                        refine go_code ?_
                        refine c_ret ?_
                        refine out_tmp rfl rfl ?_ (by first | exact MLe.none _ | exact MLe.refl _ | (repeat' (first | exact MLe.nil | exact MLe.refl _ | refine MLe.cons _ ?_ | refine MLe.drop _ ?_))) ⟨rfl, rfl⟩
                        subst_vars; exact Le.refl _
                    · refine c_cond_t rfl ?_
                      refine c_seq ?_
                      refine c_region ?_
                      refine AOps.st 2 rfl rfl rfl (op_assign rfl rfl ?_)
                      refine AOps.nil ?_
                      refine go_code ?_
                      refine c_ret ?_
                      refine out_tmp rfl rfl ?_ (by first | exact MLe.none _ | exact MLe.refl _ | (repeat' (first | exact MLe.nil | exact MLe.refl _ | refine MLe.cons _ ?_ | refine MLe.drop _ ?_))) ⟨rfl, rfl⟩
                      subst_vars; exact Le.refl _
                  · refine c_cond_t rfl ?_
                    refine c_skip ?_
                    refine go_code ?_
                    refine c_cond_t rfl ?_
                    refine c_seq ?_
                    refine c_region ?_
                    refine AOps.st 2 rfl rfl rfl (op_assign rfl rfl ?_)
                    refine AOps.nil ?_
                    refine go_code ?_
                    refine c_ret ?_
                    refine out_tmp rfl rfl ?_ (by first | exact MLe.none _ | exact MLe.refl _ | (repeat' (first | exact MLe.nil | exact MLe.refl _ | refine MLe.cons _ ?_ | refine MLe.drop _ ?_))) ⟨rfl, rfl⟩
                    subst_vars; exact Le.refl _
                · refine c_cond_t rfl ?_
                  refine c_seq ?_
                  refine c_region ?_
                  refine AOps.st 2 rfl rfl rfl (op_assign rfl rfl ?_)
                  refine AOps.nil ?_
                  refine go_code ?_
                  refine c_ret ?_
                  refine out_tmp rfl rfl ?_ (by first | exact MLe.none _ | exact MLe.refl _ | (repeat' (first | exact MLe.nil | exact MLe.refl _ | refine MLe.cons _ ?_ | refine MLe.drop _ ?_))) ⟨rfl, rfl⟩
                  subst_vars; exact Le.refl _
              · refine c_cond_t rfl ?_
                refine c_seq ?_
                refine c_region ?_
                refine AOps.st 2 rfl rfl rfl (op_assign rfl rfl ?_)
                refine AOps.nil ?_
                refine go_code ?_
                refine c_ret ?_
                refine out_tmp rfl rfl ?_ (by first | exact MLe.none _ | exact MLe.refl _ | (repeat' (first | exact MLe.nil | exact MLe.refl _ | refine MLe.cons _ ?_ | refine MLe.drop _ ?_))) ⟨rfl, rfl⟩
                subst_vars; exact Le.refl _
            · refine c_cond_t rfl ?_
              refine c_seq ?_
              refine c_region ?_
              refine AOps.st 2 rfl rfl rfl (op_assign rfl rfl ?_)
              refine AOps.nil ?_
              refine go_code ?_
              refine c_ret ?_
              refine out_tmp rfl rfl ?_ (by first | exact MLe.none _ | exact MLe.refl _ | (repeat' (first | exact MLe.nil | exact MLe.refl _ | refine MLe.cons _ ?_ | refine MLe.drop _ ?_))) ⟨rfl, rfl⟩
              subst_vars; exact Le.refl _
          · refine c_cond_t rfl ?_
            refine c_seq ?_
            refine c_region ?_
            refine AOps.st 2 rfl rfl rfl (op_assign rfl rfl ?_)
            refine AOps.nil ?_
            refine go_code ?_
            refine c_ret ?_
            refine out_tmp rfl rfl ?_ (by first | exact MLe.none _ | exact MLe.refl _ | (repeat' (first | exact MLe.nil | exact MLe.refl _ | refine MLe.cons _ ?_ | refine MLe.drop _ ?_))) ⟨rfl, rfl⟩
            subst_vars; exact Le.refl _
        · refine c_cond_t rfl ?_
          refine c_skip ?_
          refine go_code ?_
          refine c_cond_t rfl ?_
          refine c_seq ?_
          refine c_region ?_
          refine AOps.st 2 rfl rfl rfl (op_assign rfl rfl ?_)
          refine AOps.nil ?_
          refine go_code ?_
          refine c_ret ?_
          refine out_tmp rfl rfl ?_ (by first | exact MLe.none _ | exact MLe.refl _ | (repeat' (first | exact MLe.nil | exact MLe.refl _ | refine MLe.cons _ ?_ | refine MLe.drop _ ?_))) ⟨rfl, rfl⟩
          subst_vars; exact Le.refl _
      · refine c_cond_t rfl ?_
        refine c_seq ?_
        refine c_region ?_
        refine AOps.st 2 rfl rfl rfl (op_assign rfl rfl ?_)
        refine AOps.nil ?_
        refine go_code ?_
        refine c_ret ?_
        refine out_tmp rfl rfl ?_ (by first | exact MLe.none _ | exact MLe.refl _ | (repeat' (first | exact MLe.nil | exact MLe.refl _ | refine MLe.cons _ ?_ | refine MLe.drop _ ?_))) ⟨rfl, rfl⟩
        subst_vars; exact Le.refl _
    · refine c_cond_t rfl ?_
      refine c_seq ?_
      refine c_region ?_
      refine AOps.st 2 rfl rfl rfl (op_assign rfl rfl ?_)
      refine AOps.nil ?_
      refine go_code ?_
      refine c_ret ?_
      refine out_tmp rfl rfl ?_ (by first | exact MLe.none _ | exact MLe.refl _ | (repeat' (first | exact MLe.nil | exact MLe.refl _ | refine MLe.cons _ ?_ | refine MLe.drop _ ?_))) ⟨rfl, rfl⟩
      subst_vars; exact Le.refl _
  · refine c_cond_t rfl ?_
    refine c_skip ?_
    refine go_code ?_
    refine c_cond_t rfl ?_
    refine c_seq ?_
    refine c_region ?_
    refine AOps.st 2 rfl rfl rfl (op_assign rfl rfl ?_)
    refine AOps.nil ?_
    refine go_code ?_
    refine c_ret ?_
    refine out_tmp rfl rfl ?_ (by first | exact MLe.none _ | exact MLe.refl _ | (repeat' (first | exact MLe.nil | exact MLe.refl _ | refine MLe.cons _ ?_ | refine MLe.drop _ ?_))) ⟨rfl, rfl⟩
    subst_vars; exact Le.refl _
set_option maxHeartbeats 4000000 in
set_option maxRecDepth 100000 in
theorem in_c (s : ByteArray) (c : UInt8) (hs : s.size ≤ 1000000) : BCall Try.prog 49 [.val (.string s), .val (.int .u8 c.toNat)] (inP s c) := by
  have hsz : s.data.toList.length = s.size := rfl
  refine ACall.enter Try.func49 rfl (by kernel_rfl) rfl (Nat.le_of_ble_eq_true rfl) ?_
  refine c_start ?_
  refine c_seq ?_
  refine c_region ?_
  refine AOps.st 4 rfl rfl rfl (op_assign rfl rfl ?_)
  refine AOps.nil ?_
  refine go_code ?_
  refine c_seq ?_
  refine c_seq ?_
  refine c_region ?_
  refine AOps.st 5 rfl rfl rfl (op_assign rfl rfl ?_)
  refine AOps.nil ?_
  refine go_code ?_
  refine c_block ?_
  apply c_loopkm [2, 3, 4, 5, 6, 7, 8, 9, 10, 11, 12, 13, 14, 15, 16] (σ := Nat) (fun zz => match zz with | i => [(5, .val (.int .i64 i))]) (fun zz => match zz with | i => i ≤ s.size ∧ (c ∈ s.data.toList.drop i ↔ inP s c)) (fun zz => match zz with | i => s.size - i) (0)
  · repeat' (first | exact Drops.nil | apply Drops.keep rfl | apply Drops.skip rfl)
  · exact ⟨by omega, Iff.rfl⟩
  · exact (by repeat' (first | exact SLe.nil _ | refine SLe.cons rfl ?_ ?_ | exact Le.refl _ | exact Le.own _ _ _ | exact Le.nil _))
  rintro i hI
  try dsimp only [List.cons_append, List.nil_append] at hI ⊢
  obtain ⟨hi, hu⟩ := hI
  refine c_seq ?_
  refine c_seq ?_
  refine c_region ?_
  refine AOps.st 6 rfl rfl rfl (op_move rfl rfl ?_)
  refine AOps.st 7 rfl rfl rfl (op_move rfl rfl ?_)
  refine AOps.st 8 rfl rfl rfl (op_len_str rfl tu_9 rfl ?_)
  refine AOps.st 9 rfl rfl rfl (op_lss rfl rfl rfl ?_); intro c9 h9
  refine AOps.nil ?_
  refine go_code ?_
  rcases bool_split h9 with ⟨rfl, g9⟩ | ⟨rfl, g9⟩
  · refine c_cond_f rfl ?_
    refine c_exit ?_
    refine x_code ?_
    refine x_lp ?_
    refine x_here ?_
    refine go_code ?_
    refine c_seq ?_
    refine c_region ?_
    refine AOps.st 4 rfl rfl rfl (op_assign rfl rfl ?_)
    refine AOps.nil ?_
    refine go_code ?_
    refine c_ret ?_
    exact out_tmp rfl rfl (Le.refl _) (by first | exact MLe.none _ | exact MLe.refl _ | (repeat' (first | exact MLe.nil | exact MLe.refl _ | refine MLe.cons _ ?_ | refine MLe.drop _ ?_))) ⟨⟨_, iff_f (by rw [← hu, List.drop_eq_nil_of_le (by omega)]; simp), rfl⟩, rfl⟩
  · refine c_cond_t rfl ?_
    refine c_skip ?_
    refine go_code ?_
    refine c_seq ?_
    refine c_block ?_
    refine c_seq ?_
    obtain ⟨b, hb⟩ := get_some (l := s.data.toList) (i := i) (by omega)
    have hcb : s[i]? = some b := by
      have hlt : i < s.size := by omega
      rw [getElem?_pos s i hlt]
      rw [List.getElem?_eq_getElem (by omega)] at hb
      have hb2 : s.data[i] = b := by simpa using hb
      exact congrArg some hb2
    rw [drop_get hb] at hu
    refine c_region ?_
    refine AOps.st 12 rfl rfl rfl (op_move rfl rfl ?_)
    refine AOps.st 13 rfl rfl rfl (op_move rfl rfl ?_)
    refine AOps.st 14 rfl rfl rfl (op_index_str rfl tu_9 rfl rfl rfl (hcb) ?_)
    refine AOps.st 15 rfl rfl rfl (op_move rfl rfl ?_)
    refine AOps.st 16 rfl rfl rfl (op_eql rfl rfl rfl ?_); intro c16 h16
    refine AOps.nil ?_
    refine go_code ?_
    rcases bool_split h16 with ⟨rfl, g16⟩ | ⟨rfl, g16⟩
    · refine c_cond_f rfl ?_
      refine c_skip ?_
      refine go_blk ?_
      refine go_code ?_
      refine c_region ?_
      refine AOps.st 10 rfl rfl rfl (op_move rfl rfl ?_)
      refine AOps.st 11 rfl rfl rfl (op_add rfl rfl rfl (IntWalk.i64_in _ (by omega)) ?_)
      refine AOps.st 5 rfl rfl rfl (op_assign rfl rfl ?_)
      refine AOps.nil ?_
      refine go_lp ?_
      exact ⟨i + 1, ⟨by omega, by rw [← hu]; simp; intro e; subst e; exact absurd rfl g16⟩, by simp; omega, (by repeat' (first | exact SLe.nil _ | refine SLe.cons rfl ?_ ?_ | exact Le.refl _ | exact Le.own _ _ _ | exact Le.nil _)), (by first | exact MLe.none _ | exact MLe.refl _ | (repeat' (first | exact MLe.nil | exact MLe.refl _ | refine MLe.cons _ ?_ | refine MLe.drop _ ?_)))⟩
    · refine c_cond_t rfl ?_
      refine c_seq ?_
      refine c_region ?_
      refine AOps.st 4 rfl rfl rfl (op_assign rfl rfl ?_)
      refine AOps.nil ?_
      refine go_code ?_
      refine c_ret ?_
      exact out_tmp rfl rfl (Le.refl _) (by first | exact MLe.none _ | exact MLe.refl _ | (repeat' (first | exact MLe.nil | exact MLe.refl _ | refine MLe.cons _ ?_ | refine MLe.drop _ ?_))) ⟨⟨_, iff_t (hu.1 (by have : b = c := UInt8.toNat_inj.1 (by omega); subst this; simp)), rfl⟩, rfl⟩
set_option maxHeartbeats 4000000 in
set_option maxRecDepth 100000 in
theorem rightAtom_c (a : Ato) (f : Cf) (c : Cd) : BCall Try.prog 69 [.agg a.cells, .agg f.cells, .agg c.cells] (AtomP f c.gl a) := by
  obtain ⟨is, fu, tx, gl, ys, no⟩ := c
  obtain ⟨fl, sl, cp⟩ := f
  obtain ⟨k, n⟩ := a
  show BCall _ _ _ (k = 1 ∨ (0 ≤ n ∧ ((k = 2 ∧ n < sl) ∨ (k = 3 ∧ n < cp) ∨ (k = 4 ∧ n < gl))))
  refine ACall.enter Try.func69 rfl (by kernel_rfl) rfl (Nat.le_of_ble_eq_true rfl) ?_
  refine c_start ?_
  refine c_seq ?_
  refine c_region ?_
  refine AOps.st 3 rfl rfl rfl (op_boxc (cs' := [_, _]) rfl rfl rfl rfl ?_)
  refine AOps.st 4 rfl rfl rfl (op_boxc (cs' := [_, _, _]) rfl rfl rfl rfl ?_)
  refine AOps.st 5 rfl rfl rfl (op_boxc (cs' := [_, _, _, _, _, _]) rfl rfl rfl rfl ?_)
  refine AOps.st 6 rfl rfl rfl (op_assign rfl rfl ?_)
  refine AOps.nil ?_
  refine go_code ?_
  refine c_seq ?_
  refine c_seq ?_
  refine c_region ?_
  refine AOps.st 7 rfl rfl rfl (op_fieldAddr_c rfl tf_41_0 rfl rfl ?_)
  refine AOps.st 8 rfl rfl rfl (op_load_c1 rfl ta_3 rfl rfl ?_)
  refine AOps.st 9 rfl rfl rfl (op_eql rfl rfl rfl ?_); intro c9 h9
  refine AOps.nil ?_
  refine go_code ?_
  rcases bool_split h9 with ⟨rfl, g9⟩ | ⟨rfl, g9⟩
  · refine c_cond_f rfl ?_
    refine c_skip ?_
    refine go_code ?_
    refine c_seq ?_
    refine c_bool 6 (k = 1 ∨ (0 ≤ n ∧ ((k = 2 ∧ n < sl) ∨ (k = 3 ∧ n < cp) ∨ (k = 4 ∧ n < gl)))) ?_ _ _ rfl ?_
    · skip
      refine AOps.st 10 rfl rfl rfl (op_fieldAddr_c rfl tf_41_1 rfl rfl ?_)
      refine AOps.st 11 rfl rfl rfl (op_load_c1 rfl ta_2 rfl rfl ?_)
      refine AOps.st 12 rfl rfl rfl (op_geq rfl rfl rfl ?_); intro c12 h12
      refine AOps.st 13 rfl rfl rfl (op_move rfl rfl ?_)
      rcases bool_split h12 with ⟨rfl, g12⟩ | ⟨rfl, g12⟩
      · skip
        refine AOps.gf 14 rfl rfl rfl rfl rfl ?_
        refine AOps.gf 15 rfl rfl rfl rfl rfl ?_
        refine AOps.gf 16 rfl rfl rfl rfl rfl ?_
        refine AOps.gf 17 rfl rfl rfl rfl rfl ?_
        refine AOps.gu 18 rfl rfl rfl rfl rfl ?_
        refine AOps.gu 19 rfl rfl rfl rfl rfl ?_
        refine AOps.gu 20 rfl rfl rfl rfl rfl ?_
        refine AOps.gu 21 rfl rfl rfl rfl rfl ?_
        refine AOps.gu 22 rfl rfl rfl rfl rfl ?_
        refine AOps.gf 23 rfl rfl rfl rfl rfl ?_
        refine AOps.gf 24 rfl rfl rfl rfl rfl ?_
        refine AOps.gu 25 rfl rfl rfl rfl rfl ?_
        refine AOps.gu 26 rfl rfl rfl rfl rfl ?_
        refine AOps.gu 27 rfl rfl rfl rfl rfl ?_
        refine AOps.gu 28 rfl rfl rfl rfl rfl ?_
        refine AOps.gu 29 rfl rfl rfl rfl rfl ?_
        refine AOps.gu 30 rfl rfl rfl rfl rfl ?_
        refine AOps.gu 31 rfl rfl rfl rfl rfl ?_
        refine AOps.gu 32 rfl rfl rfl rfl rfl ?_
        refine AOps.gu 33 rfl rfl rfl rfl rfl ?_
        refine AOps.gu 34 rfl rfl rfl rfl rfl ?_
        refine AOps.gf 35 rfl rfl rfl rfl rfl ?_
        refine AOps.gf 36 rfl rfl rfl rfl rfl ?_
        refine AOps.gu 37 rfl rfl rfl rfl rfl ?_
        refine AOps.gu 38 rfl rfl rfl rfl rfl ?_
        refine AOps.gu 39 rfl rfl rfl rfl rfl ?_
        refine AOps.gu 40 rfl rfl rfl rfl rfl ?_
        refine AOps.gu 41 rfl rfl rfl rfl rfl ?_
        refine AOps.gu 42 rfl rfl rfl rfl rfl ?_
        refine AOps.gu 43 rfl rfl rfl rfl rfl ?_
        refine AOps.gu 44 rfl rfl rfl rfl rfl ?_
        refine AOps.gu 45 rfl rfl rfl rfl rfl ?_
        refine AOps.gu 46 rfl rfl rfl rfl rfl ?_
        refine AOps.gf 47 rfl rfl rfl rfl rfl ?_
        refine AOps.st 48 rfl rfl rfl (op_pick rfl rfl rfl ?_)
        refine AOps.st 6 rfl rfl rfl (op_assign rfl rfl ?_)
        refine AOps.nil ?_
        refine BoolQ.mk rfl ?_ (by repeat' (first | exact SLe.wo _ _ | exact SLe.refl _ | refine SLe.fresh rfl ?_)) (by first | exact MLe.none _ | exact MLe.refl _ | (repeat' (first | exact MLe.nil | exact MLe.refl _ | refine MLe.cons _ ?_ | refine MLe.drop _ ?_)))
        first | (simp_all; done) | (simp_all; omega)
      · skip
        refine AOps.gt 14 rfl rfl rfl rfl rfl (op_fieldAddr_c rfl tf_41_0 rfl rfl ?_)
        refine AOps.gt 15 rfl rfl rfl rfl rfl (op_load_c1 rfl ta_3 rfl rfl ?_)
        refine AOps.gt 16 rfl rfl rfl rfl rfl (op_eql rfl rfl rfl ?_); intro c16 h16
        refine AOps.gt 17 rfl rfl rfl rfl rfl (op_move rfl rfl ?_)
        rcases bool_split h16 with ⟨rfl, g16⟩ | ⟨rfl, g16⟩
        · skip
          refine AOps.gf 18 rfl rfl rfl rfl rfl ?_
          refine AOps.gf 19 rfl rfl rfl rfl rfl ?_
          refine AOps.gf 20 rfl rfl rfl rfl rfl ?_
          refine AOps.gf 21 rfl rfl rfl rfl rfl ?_
          refine AOps.gf 22 rfl rfl rfl rfl rfl ?_
          refine AOps.gt 23 rfl rfl rfl rfl rfl (op_pick rfl rfl rfl ?_)
          refine AOps.gt 24 rfl rfl rfl rfl rfl (op_move rfl rfl ?_)
          refine AOps.gt 25 rfl rfl rfl rfl rfl (op_fieldAddr_c rfl tf_41_0 rfl rfl ?_)
          refine AOps.gt 26 rfl rfl rfl rfl rfl (op_load_c1 rfl ta_3 rfl rfl ?_)
          refine AOps.gt 27 rfl rfl rfl rfl rfl (op_eql rfl rfl rfl ?_); intro c27 h27
          refine AOps.gt 28 rfl rfl rfl rfl rfl (op_move rfl rfl ?_)
          rcases bool_split h27 with ⟨rfl, g27⟩ | ⟨rfl, g27⟩
          · skip
            refine AOps.gf 29 rfl rfl rfl rfl rfl ?_
            refine AOps.gf 30 rfl rfl rfl rfl rfl ?_
            refine AOps.gf 31 rfl rfl rfl rfl rfl ?_
            refine AOps.gf 32 rfl rfl rfl rfl rfl ?_
            refine AOps.gf 33 rfl rfl rfl rfl rfl ?_
            refine AOps.gt 34 rfl rfl rfl rfl rfl (op_pick rfl rfl rfl ?_)
            refine AOps.gt 35 rfl rfl rfl rfl rfl (op_pick rfl rfl rfl ?_)
            refine AOps.gt 36 rfl rfl rfl rfl rfl (op_move rfl rfl ?_)
            refine AOps.gt 37 rfl rfl rfl rfl rfl (op_fieldAddr_c rfl tf_41_0 rfl rfl ?_)
            refine AOps.gt 38 rfl rfl rfl rfl rfl (op_load_c1 rfl ta_3 rfl rfl ?_)
            refine AOps.gt 39 rfl rfl rfl rfl rfl (op_eql rfl rfl rfl ?_); intro c39 h39
            refine AOps.gt 40 rfl rfl rfl rfl rfl (op_move rfl rfl ?_)
            rcases bool_split h39 with ⟨rfl, g39⟩ | ⟨rfl, g39⟩
            · skip
              refine AOps.gf 41 rfl rfl rfl rfl rfl ?_
              refine AOps.gf 42 rfl rfl rfl rfl rfl ?_
              refine AOps.gf 43 rfl rfl rfl rfl rfl ?_
              refine AOps.gf 44 rfl rfl rfl rfl rfl ?_
              refine AOps.gf 45 rfl rfl rfl rfl rfl ?_
              refine AOps.gt 46 rfl rfl rfl rfl rfl (op_pick rfl rfl rfl ?_)
              refine AOps.gt 47 rfl rfl rfl rfl rfl (op_pick rfl rfl rfl ?_)
              refine AOps.st 48 rfl rfl rfl (op_pick rfl rfl rfl ?_)
              refine AOps.st 6 rfl rfl rfl (op_assign rfl rfl ?_)
              refine AOps.nil ?_
              refine BoolQ.mk rfl ?_ (by repeat' (first | exact SLe.wo _ _ | exact SLe.refl _ | refine SLe.fresh rfl ?_)) (by first | exact MLe.none _ | exact MLe.refl _ | (repeat' (first | exact MLe.nil | exact MLe.refl _ | refine MLe.cons _ ?_ | refine MLe.drop _ ?_)))
              simp_all; done
            · skip
              refine AOps.gt 41 rfl rfl rfl rfl rfl (op_fieldAddr_c rfl tf_41_1 rfl rfl ?_)
              refine AOps.gt 42 rfl rfl rfl rfl rfl (op_load_c1 rfl ta_2 rfl rfl ?_)
              refine AOps.gt 43 rfl rfl rfl rfl rfl (op_fieldAddr_c rfl tf_26_3 rfl rfl ?_)
              refine AOps.gt 44 rfl rfl rfl rfl rfl (op_load_c1 rfl ta_3 rfl rfl ?_)
              refine AOps.gt 45 rfl rfl rfl rfl rfl (op_lss rfl rfl rfl ?_); intro c45 h45
              refine AOps.gt 46 rfl rfl rfl rfl rfl (op_pick rfl rfl rfl ?_)
              refine AOps.gt 47 rfl rfl rfl rfl rfl (op_pick rfl rfl rfl ?_)
              refine AOps.st 48 rfl rfl rfl (op_pick rfl rfl rfl ?_)
              refine AOps.st 6 rfl rfl rfl (op_assign rfl rfl ?_)
              refine AOps.nil ?_
              refine BoolQ.mk rfl ?_ (by repeat' (first | exact SLe.wo _ _ | exact SLe.refl _ | refine SLe.fresh rfl ?_)) (by first | exact MLe.none _ | exact MLe.refl _ | (repeat' (first | exact MLe.nil | exact MLe.refl _ | refine MLe.cons _ ?_ | refine MLe.drop _ ?_)))
              simp_all; done
          · skip
            refine AOps.gt 29 rfl rfl rfl rfl rfl (op_fieldAddr_c rfl tf_41_1 rfl rfl ?_)
            refine AOps.gt 30 rfl rfl rfl rfl rfl (op_load_c1 rfl ta_2 rfl rfl ?_)
            refine AOps.gt 31 rfl rfl rfl rfl rfl (op_fieldAddr_c rfl tf_39_2 rfl rfl ?_)
            refine AOps.gt 32 rfl rfl rfl rfl rfl (op_load_c1 rfl ta_3 rfl rfl ?_)
            refine AOps.gt 33 rfl rfl rfl rfl rfl (op_lss rfl rfl rfl ?_); intro c33 h33
            refine AOps.gt 34 rfl rfl rfl rfl rfl (op_pick rfl rfl rfl ?_)
            refine AOps.gt 35 rfl rfl rfl rfl rfl (op_pick rfl rfl rfl ?_)
            refine AOps.gt 36 rfl rfl rfl rfl rfl (op_move rfl rfl ?_)
            rcases bool_split h33 with ⟨rfl, g33⟩ | ⟨rfl, g33⟩
            · skip
              refine AOps.gt 37 rfl rfl rfl rfl rfl (op_fieldAddr_c rfl tf_41_0 rfl rfl ?_)
              refine AOps.gt 38 rfl rfl rfl rfl rfl (op_load_c1 rfl ta_3 rfl rfl ?_)
              refine AOps.gt 39 rfl rfl rfl rfl rfl (op_eql rfl rfl rfl ?_); intro c39 h39
              refine AOps.gt 40 rfl rfl rfl rfl rfl (op_move rfl rfl ?_)
              rcases bool_split h39 with ⟨rfl, g39⟩ | ⟨rfl, g39⟩
              · skip
                refine AOps.gf 41 rfl rfl rfl rfl rfl ?_
                refine AOps.gf 42 rfl rfl rfl rfl rfl ?_
                refine AOps.gf 43 rfl rfl rfl rfl rfl ?_
                refine AOps.gf 44 rfl rfl rfl rfl rfl ?_
                refine AOps.gf 45 rfl rfl rfl rfl rfl ?_
                refine AOps.gt 46 rfl rfl rfl rfl rfl (op_pick rfl rfl rfl ?_)
                refine AOps.gt 47 rfl rfl rfl rfl rfl (op_pick rfl rfl rfl ?_)
                refine AOps.st 48 rfl rfl rfl (op_pick rfl rfl rfl ?_)
                refine AOps.st 6 rfl rfl rfl (op_assign rfl rfl ?_)
                refine AOps.nil ?_
                refine BoolQ.mk rfl ?_ (by repeat' (first | exact SLe.wo _ _ | exact SLe.refl _ | refine SLe.fresh rfl ?_)) (by first | exact MLe.none _ | exact MLe.refl _ | (repeat' (first | exact MLe.nil | exact MLe.refl _ | refine MLe.cons _ ?_ | refine MLe.drop _ ?_)))
                simp_all; done
              · skip
                refine AOps.gt 41 rfl rfl rfl rfl rfl (op_fieldAddr_c rfl tf_41_1 rfl rfl ?_)
                refine AOps.gt 42 rfl rfl rfl rfl rfl (op_load_c1 rfl ta_2 rfl rfl ?_)
                refine AOps.gt 43 rfl rfl rfl rfl rfl (op_fieldAddr_c rfl tf_26_3 rfl rfl ?_)
                refine AOps.gt 44 rfl rfl rfl rfl rfl (op_load_c1 rfl ta_3 rfl rfl ?_)
                refine AOps.gt 45 rfl rfl rfl rfl rfl (op_lss rfl rfl rfl ?_); intro c45 h45
                refine AOps.gt 46 rfl rfl rfl rfl rfl (op_pick rfl rfl rfl ?_)
                refine AOps.gt 47 rfl rfl rfl rfl rfl (op_pick rfl rfl rfl ?_)
                refine AOps.st 48 rfl rfl rfl (op_pick rfl rfl rfl ?_)
                refine AOps.st 6 rfl rfl rfl (op_assign rfl rfl ?_)
                refine AOps.nil ?_
                refine BoolQ.mk rfl ?_ (by repeat' (first | exact SLe.wo _ _ | exact SLe.refl _ | refine SLe.fresh rfl ?_)) (by first | exact MLe.none _ | exact MLe.refl _ | (repeat' (first | exact MLe.nil | exact MLe.refl _ | refine MLe.cons _ ?_ | refine MLe.drop _ ?_)))
                simp_all; done
            · skip
              refine AOps.gf 37 rfl rfl rfl rfl rfl ?_
              refine AOps.gf 38 rfl rfl rfl rfl rfl ?_
              refine AOps.gf 39 rfl rfl rfl rfl rfl ?_
              refine AOps.gf 40 rfl rfl rfl rfl rfl ?_
              refine AOps.gu 41 rfl rfl rfl rfl rfl ?_
              refine AOps.gu 42 rfl rfl rfl rfl rfl ?_
              refine AOps.gu 43 rfl rfl rfl rfl rfl ?_
              refine AOps.gu 44 rfl rfl rfl rfl rfl ?_
              refine AOps.gu 45 rfl rfl rfl rfl rfl ?_
              refine AOps.gf 46 rfl rfl rfl rfl rfl ?_
              refine AOps.gt 47 rfl rfl rfl rfl rfl (op_pick rfl rfl rfl ?_)
              refine AOps.st 48 rfl rfl rfl (op_pick rfl rfl rfl ?_)
              refine AOps.st 6 rfl rfl rfl (op_assign rfl rfl ?_)
              refine AOps.nil ?_
              refine BoolQ.mk rfl ?_ (by repeat' (first | exact SLe.wo _ _ | exact SLe.refl _ | refine SLe.fresh rfl ?_)) (by first | exact MLe.none _ | exact MLe.refl _ | (repeat' (first | exact MLe.nil | exact MLe.refl _ | refine MLe.cons _ ?_ | refine MLe.drop _ ?_)))
              simp_all; done
        · skip
          refine AOps.gt 18 rfl rfl rfl rfl rfl (op_fieldAddr_c rfl tf_41_1 rfl rfl ?_)
          refine AOps.gt 19 rfl rfl rfl rfl rfl (op_load_c1 rfl ta_2 rfl rfl ?_)
          refine AOps.gt 20 rfl rfl rfl rfl rfl (op_fieldAddr_c rfl tf_39_1 rfl rfl ?_)
          refine AOps.gt 21 rfl rfl rfl rfl rfl (op_load_c1 rfl ta_3 rfl rfl ?_)
          refine AOps.gt 22 rfl rfl rfl rfl rfl (op_lss rfl rfl rfl ?_); intro c22 h22
          refine AOps.gt 23 rfl rfl rfl rfl rfl (op_pick rfl rfl rfl ?_)
          refine AOps.gt 24 rfl rfl rfl rfl rfl (op_move rfl rfl ?_)
          rcases bool_split h22 with ⟨rfl, g22⟩ | ⟨rfl, g22⟩
          · skip
            refine AOps.gt 25 rfl rfl rfl rfl rfl (op_fieldAddr_c rfl tf_41_0 rfl rfl ?_)
            refine AOps.gt 26 rfl rfl rfl rfl rfl (op_load_c1 rfl ta_3 rfl rfl ?_)
            refine AOps.gt 27 rfl rfl rfl rfl rfl (op_eql rfl rfl rfl ?_); intro c27 h27
            refine AOps.gt 28 rfl rfl rfl rfl rfl (op_move rfl rfl ?_)
            rcases bool_split h27 with ⟨rfl, g27⟩ | ⟨rfl, g27⟩
            · skip
              refine AOps.gf 29 rfl rfl rfl rfl rfl ?_
              refine AOps.gf 30 rfl rfl rfl rfl rfl ?_
              refine AOps.gf 31 rfl rfl rfl rfl rfl ?_
              refine AOps.gf 32 rfl rfl rfl rfl rfl ?_
              refine AOps.gf 33 rfl rfl rfl rfl rfl ?_
              refine AOps.gt 34 rfl rfl rfl rfl rfl (op_pick rfl rfl rfl ?_)
              refine AOps.gt 35 rfl rfl rfl rfl rfl (op_pick rfl rfl rfl ?_)
              refine AOps.gt 36 rfl rfl rfl rfl rfl (op_move rfl rfl ?_)
              refine AOps.gt 37 rfl rfl rfl rfl rfl (op_fieldAddr_c rfl tf_41_0 rfl rfl ?_)
              refine AOps.gt 38 rfl rfl rfl rfl rfl (op_load_c1 rfl ta_3 rfl rfl ?_)
              refine AOps.gt 39 rfl rfl rfl rfl rfl (op_eql rfl rfl rfl ?_); intro c39 h39
              refine AOps.gt 40 rfl rfl rfl rfl rfl (op_move rfl rfl ?_)
              rcases bool_split h39 with ⟨rfl, g39⟩ | ⟨rfl, g39⟩
              · skip
                refine AOps.gf 41 rfl rfl rfl rfl rfl ?_
                refine AOps.gf 42 rfl rfl rfl rfl rfl ?_
                refine AOps.gf 43 rfl rfl rfl rfl rfl ?_
                refine AOps.gf 44 rfl rfl rfl rfl rfl ?_
                refine AOps.gf 45 rfl rfl rfl rfl rfl ?_
                refine AOps.gt 46 rfl rfl rfl rfl rfl (op_pick rfl rfl rfl ?_)
                refine AOps.gt 47 rfl rfl rfl rfl rfl (op_pick rfl rfl rfl ?_)
                refine AOps.st 48 rfl rfl rfl (op_pick rfl rfl rfl ?_)
                refine AOps.st 6 rfl rfl rfl (op_assign rfl rfl ?_)
                refine AOps.nil ?_
                refine BoolQ.mk rfl ?_ (by repeat' (first | exact SLe.wo _ _ | exact SLe.refl _ | refine SLe.fresh rfl ?_)) (by first | exact MLe.none _ | exact MLe.refl _ | (repeat' (first | exact MLe.nil | exact MLe.refl _ | refine MLe.cons _ ?_ | refine MLe.drop _ ?_)))
                simp_all; done
              · skip
                refine AOps.gt 41 rfl rfl rfl rfl rfl (op_fieldAddr_c rfl tf_41_1 rfl rfl ?_)
                refine AOps.gt 42 rfl rfl rfl rfl rfl (op_load_c1 rfl ta_2 rfl rfl ?_)
                refine AOps.gt 43 rfl rfl rfl rfl rfl (op_fieldAddr_c rfl tf_26_3 rfl rfl ?_)
                refine AOps.gt 44 rfl rfl rfl rfl rfl (op_load_c1 rfl ta_3 rfl rfl ?_)
                refine AOps.gt 45 rfl rfl rfl rfl rfl (op_lss rfl rfl rfl ?_); intro c45 h45
                refine AOps.gt 46 rfl rfl rfl rfl rfl (op_pick rfl rfl rfl ?_)
                refine AOps.gt 47 rfl rfl rfl rfl rfl (op_pick rfl rfl rfl ?_)
                refine AOps.st 48 rfl rfl rfl (op_pick rfl rfl rfl ?_)
                refine AOps.st 6 rfl rfl rfl (op_assign rfl rfl ?_)
                refine AOps.nil ?_
                refine BoolQ.mk rfl ?_ (by repeat' (first | exact SLe.wo _ _ | exact SLe.refl _ | refine SLe.fresh rfl ?_)) (by first | exact MLe.none _ | exact MLe.refl _ | (repeat' (first | exact MLe.nil | exact MLe.refl _ | refine MLe.cons _ ?_ | refine MLe.drop _ ?_)))
                simp_all; done
            · skip
              refine AOps.gt 29 rfl rfl rfl rfl rfl (op_fieldAddr_c rfl tf_41_1 rfl rfl ?_)
              refine AOps.gt 30 rfl rfl rfl rfl rfl (op_load_c1 rfl ta_2 rfl rfl ?_)
              refine AOps.gt 31 rfl rfl rfl rfl rfl (op_fieldAddr_c rfl tf_39_2 rfl rfl ?_)
              refine AOps.gt 32 rfl rfl rfl rfl rfl (op_load_c1 rfl ta_3 rfl rfl ?_)
              refine AOps.gt 33 rfl rfl rfl rfl rfl (op_lss rfl rfl rfl ?_); intro c33 h33
              refine AOps.gt 34 rfl rfl rfl rfl rfl (op_pick rfl rfl rfl ?_)
              refine AOps.gt 35 rfl rfl rfl rfl rfl (op_pick rfl rfl rfl ?_)
              refine AOps.gt 36 rfl rfl rfl rfl rfl (op_move rfl rfl ?_)
              rcases bool_split h33 with ⟨rfl, g33⟩ | ⟨rfl, g33⟩
              · skip
                refine AOps.gt 37 rfl rfl rfl rfl rfl (op_fieldAddr_c rfl tf_41_0 rfl rfl ?_)
                refine AOps.gt 38 rfl rfl rfl rfl rfl (op_load_c1 rfl ta_3 rfl rfl ?_)
                refine AOps.gt 39 rfl rfl rfl rfl rfl (op_eql rfl rfl rfl ?_); intro c39 h39
                refine AOps.gt 40 rfl rfl rfl rfl rfl (op_move rfl rfl ?_)
                rcases bool_split h39 with ⟨rfl, g39⟩ | ⟨rfl, g39⟩
                · skip
                  refine AOps.gf 41 rfl rfl rfl rfl rfl ?_
                  refine AOps.gf 42 rfl rfl rfl rfl rfl ?_
                  refine AOps.gf 43 rfl rfl rfl rfl rfl ?_
                  refine AOps.gf 44 rfl rfl rfl rfl rfl ?_
                  refine AOps.gf 45 rfl rfl rfl rfl rfl ?_
                  refine AOps.gt 46 rfl rfl rfl rfl rfl (op_pick rfl rfl rfl ?_)
                  refine AOps.gt 47 rfl rfl rfl rfl rfl (op_pick rfl rfl rfl ?_)
                  refine AOps.st 48 rfl rfl rfl (op_pick rfl rfl rfl ?_)
                  refine AOps.st 6 rfl rfl rfl (op_assign rfl rfl ?_)
                  refine AOps.nil ?_
                  refine BoolQ.mk rfl ?_ (by repeat' (first | exact SLe.wo _ _ | exact SLe.refl _ | refine SLe.fresh rfl ?_)) (by first | exact MLe.none _ | exact MLe.refl _ | (repeat' (first | exact MLe.nil | exact MLe.refl _ | refine MLe.cons _ ?_ | refine MLe.drop _ ?_)))
                  simp_all; done
                · skip
                  refine AOps.gt 41 rfl rfl rfl rfl rfl (op_fieldAddr_c rfl tf_41_1 rfl rfl ?_)
                  refine AOps.gt 42 rfl rfl rfl rfl rfl (op_load_c1 rfl ta_2 rfl rfl ?_)
                  refine AOps.gt 43 rfl rfl rfl rfl rfl (op_fieldAddr_c rfl tf_26_3 rfl rfl ?_)
                  refine AOps.gt 44 rfl rfl rfl rfl rfl (op_load_c1 rfl ta_3 rfl rfl ?_)
                  refine AOps.gt 45 rfl rfl rfl rfl rfl (op_lss rfl rfl rfl ?_); intro c45 h45
                  refine AOps.gt 46 rfl rfl rfl rfl rfl (op_pick rfl rfl rfl ?_)
                  refine AOps.gt 47 rfl rfl rfl rfl rfl (op_pick rfl rfl rfl ?_)
                  refine AOps.st 48 rfl rfl rfl (op_pick rfl rfl rfl ?_)
                  refine AOps.st 6 rfl rfl rfl (op_assign rfl rfl ?_)
                  refine AOps.nil ?_
                  refine BoolQ.mk rfl ?_ (by repeat' (first | exact SLe.wo _ _ | exact SLe.refl _ | refine SLe.fresh rfl ?_)) (by first | exact MLe.none _ | exact MLe.refl _ | (repeat' (first | exact MLe.nil | exact MLe.refl _ | refine MLe.cons _ ?_ | refine MLe.drop _ ?_)))
                  simp_all; done
              · skip
                refine AOps.gf 37 rfl rfl rfl rfl rfl ?_
                refine AOps.gf 38 rfl rfl rfl rfl rfl ?_
                refine AOps.gf 39 rfl rfl rfl rfl rfl ?_
                refine AOps.gf 40 rfl rfl rfl rfl rfl ?_
                refine AOps.gu 41 rfl rfl rfl rfl rfl ?_
                refine AOps.gu 42 rfl rfl rfl rfl rfl ?_
                refine AOps.gu 43 rfl rfl rfl rfl rfl ?_
                refine AOps.gu 44 rfl rfl rfl rfl rfl ?_
                refine AOps.gu 45 rfl rfl rfl rfl rfl ?_
                refine AOps.gf 46 rfl rfl rfl rfl rfl ?_
                refine AOps.gt 47 rfl rfl rfl rfl rfl (op_pick rfl rfl rfl ?_)
                refine AOps.st 48 rfl rfl rfl (op_pick rfl rfl rfl ?_)
                refine AOps.st 6 rfl rfl rfl (op_assign rfl rfl ?_)
                refine AOps.nil ?_
                refine BoolQ.mk rfl ?_ (by repeat' (first | exact SLe.wo _ _ | exact SLe.refl _ | refine SLe.fresh rfl ?_)) (by first | exact MLe.none _ | exact MLe.refl _ | (repeat' (first | exact MLe.nil | exact MLe.refl _ | refine MLe.cons _ ?_ | refine MLe.drop _ ?_)))
                simp_all; done
          · skip
            refine AOps.gf 25 rfl rfl rfl rfl rfl ?_
            refine AOps.gf 26 rfl rfl rfl rfl rfl ?_
            refine AOps.gf 27 rfl rfl rfl rfl rfl ?_
            refine AOps.gf 28 rfl rfl rfl rfl rfl ?_
            refine AOps.gu 29 rfl rfl rfl rfl rfl ?_
            refine AOps.gu 30 rfl rfl rfl rfl rfl ?_
            refine AOps.gu 31 rfl rfl rfl rfl rfl ?_
            refine AOps.gu 32 rfl rfl rfl rfl rfl ?_
            refine AOps.gu 33 rfl rfl rfl rfl rfl ?_
            refine AOps.gf 34 rfl rfl rfl rfl rfl ?_
            refine AOps.gt 35 rfl rfl rfl rfl rfl (op_pick rfl rfl rfl ?_)
            refine AOps.gt 36 rfl rfl rfl rfl rfl (op_move rfl rfl ?_)
            refine AOps.gf 37 rfl rfl rfl rfl rfl ?_
            refine AOps.gf 38 rfl rfl rfl rfl rfl ?_
            refine AOps.gf 39 rfl rfl rfl rfl rfl ?_
            refine AOps.gf 40 rfl rfl rfl rfl rfl ?_
            refine AOps.gu 41 rfl rfl rfl rfl rfl ?_
            refine AOps.gu 42 rfl rfl rfl rfl rfl ?_
            refine AOps.gu 43 rfl rfl rfl rfl rfl ?_
            refine AOps.gu 44 rfl rfl rfl rfl rfl ?_
            refine AOps.gu 45 rfl rfl rfl rfl rfl ?_
            refine AOps.gf 46 rfl rfl rfl rfl rfl ?_
            refine AOps.gt 47 rfl rfl rfl rfl rfl (op_pick rfl rfl rfl ?_)
            refine AOps.st 48 rfl rfl rfl (op_pick rfl rfl rfl ?_)
            refine AOps.st 6 rfl rfl rfl (op_assign rfl rfl ?_)
            refine AOps.nil ?_
            refine BoolQ.mk rfl ?_ (by repeat' (first | exact SLe.wo _ _ | exact SLe.refl _ | refine SLe.fresh rfl ?_)) (by first | exact MLe.none _ | exact MLe.refl _ | (repeat' (first | exact MLe.nil | exact MLe.refl _ | refine MLe.cons _ ?_ | refine MLe.drop _ ?_)))
            simp_all; done
    intro c6 h6
    refine go_code ?_
    refine c_ret ?_
    exact out_tmp rfl rfl (Le.refl _) (by first | exact MLe.none _ | exact MLe.refl _ | (repeat' (first | exact MLe.nil | exact MLe.refl _ | refine MLe.cons _ ?_ | refine MLe.drop _ ?_))) ⟨⟨_, h6, rfl⟩, rfl⟩
  · refine c_cond_t rfl ?_
    refine c_seq ?_
    refine c_region ?_
    refine AOps.st 6 rfl rfl rfl (op_assign rfl rfl ?_)
    refine AOps.nil ?_
    refine go_code ?_
    refine c_ret ?_
    exact out_tmp rfl rfl (Le.refl _) (by first | exact MLe.none _ | exact MLe.refl _ | (repeat' (first | exact MLe.nil | exact MLe.refl _ | refine MLe.cons _ ?_ | refine MLe.drop _ ?_))) ⟨⟨_, iff_t (.inl g9), rfl⟩, rfl⟩
set_option maxHeartbeats 4000000 in
set_option maxRecDepth 100000 in
theorem rightAtoms_c (l : List Ato) (f : Cf) (c : Cd) : BCall Try.prog 48 [.seq 2 (Ato.cellss l), .agg f.cells, .agg c.cells] (∀ a ∈ l, AtomP f c.gl a) := by
  have HA := fun a => rightAtom_c a f c
  have hl := Ato.cellss_len l
  generalize AtomP f c.gl = AP at *
  obtain ⟨is, fu, tx, gl, ys, no⟩ := c
  obtain ⟨fl, sl, cp⟩ := f
  refine ACall.enter Try.func48 rfl (by kernel_rfl) rfl (Nat.le_of_ble_eq_true rfl) ?_
  refine c_start ?_
  refine c_lens (t := 0) rfl (.seq _ _) (fun hmax => ?_)
  refine c_seq ?_
  refine c_region ?_
  refine AOps.st 4 rfl rfl rfl (op_boxc (cs' := [_, _, _]) rfl rfl rfl rfl ?_)
  refine AOps.st 5 rfl rfl rfl (op_boxc (cs' := [_, _, _, _, _, _]) rfl rfl rfl rfl ?_)
  refine AOps.st 6 rfl rfl rfl (op_assign rfl rfl ?_)
  refine AOps.nil ?_
  refine go_code ?_
  refine c_seq ?_
  refine c_seq ?_
  refine c_region ?_
  refine AOps.st 7 rfl rfl rfl (op_assign rfl rfl ?_)
  refine AOps.nil ?_
  refine go_code ?_
  refine c_block ?_
  apply c_loopkm [1, 2, 3, 6, 7, 8, 9, 10, 11, 12, 13, 14, 15, 16, 17, 18, 19, 20, 21] (σ := Nat) (fun zz => match zz with | i => [(7, .val (.int .i64 i))]) (fun zz => match zz with | i => i ≤ l.length ∧ ((∀ a ∈ l.drop i, AP a) ↔ ∀ a ∈ l, AP a)) (fun zz => match zz with | i => l.length - i) (0)
  · repeat' (first | exact Drops.nil | apply Drops.keep rfl | apply Drops.skip rfl)
  · exact ⟨by omega, Iff.rfl⟩
  · exact (by repeat' (first | exact SLe.nil _ | refine SLe.cons rfl ?_ ?_ | exact Le.refl _ | exact Le.own _ _ _ | exact Le.nil _))
  rintro i hI
  try dsimp only [List.cons_append, List.nil_append] at hI ⊢
  obtain ⟨hi, hu⟩ := hI
  refine c_seq ?_
  refine c_seq ?_
  refine c_region ?_
  refine AOps.st 8 rfl rfl rfl (op_move rfl rfl ?_)
  refine AOps.st 9 rfl rfl rfl (op_move rfl rfl ?_)
  refine AOps.st 10 rfl rfl rfl (op_len rfl tu_42 rfl (.seq _ _) (fun n10 => ?_))
  refine AOps.st 11 rfl rfl rfl (op_lss rfl rfl rfl ?_); intro c11 h11
  refine AOps.nil ?_
  refine go_code ?_
  rcases bool_split h11 with ⟨rfl, g11⟩ | ⟨rfl, g11⟩
  · refine c_cond_f rfl ?_
    refine c_exit ?_
    refine x_code ?_
    refine x_lp ?_
    refine x_here ?_
    refine go_code ?_
    refine c_seq ?_
    refine c_region ?_
    refine AOps.st 6 rfl rfl rfl (op_assign rfl rfl ?_)
    refine AOps.nil ?_
    refine go_code ?_
    refine c_ret ?_
    exact out_tmp rfl rfl (Le.refl _) (by first | exact MLe.none _ | exact MLe.refl _ | (repeat' (first | exact MLe.nil | exact MLe.refl _ | refine MLe.cons _ ?_ | refine MLe.drop _ ?_))) ⟨⟨_, iff_t (by rw [← hu, List.drop_eq_nil_of_le (by omega)]; simp), rfl⟩, rfl⟩
  · refine c_cond_t rfl ?_
    refine c_skip ?_
    refine go_code ?_
    refine c_seq ?_
    refine c_block ?_
    refine c_seq ?_
    obtain ⟨⟨yk, yn⟩, hxy⟩ := get_some (l := l) (i := i) (by first | omega | (simp at *; omega))
    have hcy := Ato.cellss_get hxy
    have hmy := List.mem_of_getElem? hxy
    rw [drop_get hxy] at hu
    refine c_drawn tmix rfl ?_
    refine DOps.st 14 rfl rfl (op_move rfl rfl ⟨rfl, rfl⟩) ?_
    refine DOps.st 15 rfl rfl (op_move rfl rfl ⟨rfl, rfl⟩) ?_
    refine DOps.st 16 rfl rfl (op_index rfl te_42 rfl (.seq _ _) rfl rfl (by assumption) ⟨rfl, rfl⟩) ?_
    first | (refine DOps.st 17 rfl rfl (op_load_m (cs' := [_, _]) (i := 0) rfl ta_41 rfl rfl rfl rfl ⟨rfl, rfl⟩) ?_) | (refine DOps.st 17 rfl rfl (op_load_m (cs' := [_, _]) (i := 1) rfl ta_41 rfl rfl rfl rfl ⟨rfl, rfl⟩) ?_) | (refine DOps.st 17 rfl rfl (op_load_m (cs' := [_, _]) (i := 2) rfl ta_41 rfl rfl rfl rfl ⟨rfl, rfl⟩) ?_) | (refine DOps.st 17 rfl rfl (op_load_m (cs' := [_, _]) (i := 3) rfl ta_41 rfl rfl rfl rfl ⟨rfl, rfl⟩) ?_) | (refine DOps.st 17 rfl rfl (op_load_m (cs' := [_, _]) (i := 4) rfl ta_41 rfl rfl rfl rfl ⟨rfl, rfl⟩) ?_) | (refine DOps.st 17 rfl rfl (op_load_m (cs' := [_, _]) (i := 5) rfl ta_41 rfl rfl rfl rfl ⟨rfl, rfl⟩) ?_) | (refine DOps.st 17 rfl rfl (op_load_m (cs' := [_, _]) (i := 6) rfl ta_41 rfl rfl rfl rfl ⟨rfl, rfl⟩) ?_) | (refine DOps.st 17 rfl rfl (op_load_m (cs' := [_, _]) (i := 7) rfl ta_41 rfl rfl rfl rfl ⟨rfl, rfl⟩) ?_) | (refine DOps.st 17 rfl rfl (op_load_m (cs' := [_, _]) (i := 8) rfl ta_41 rfl rfl rfl rfl ⟨rfl, rfl⟩) ?_) | (refine DOps.st 17 rfl rfl (op_load_m (cs' := [_, _]) (i := 9) rfl ta_41 rfl rfl rfl rfl ⟨rfl, rfl⟩) ?_) | (refine DOps.st 17 rfl rfl (op_load_c (cs' := [_, _]) rfl ta_41 rfl rfl rfl ⟨rfl, rfl⟩) ?_)
    refine DOps.st 18 rfl rfl (op_load_c (cs' := [_, _, _]) rfl ta_39 rfl rfl rfl ⟨rfl, rfl⟩) ?_
    refine DOps.st 19 rfl rfl (op_load_c (cs' := [_, _, _, _, _, _]) rfl ta_26 rfl rfl rfl ⟨rfl, rfl⟩) ?_
    refine DOps.cm 20 rfl rfl (fun _ q => op_callb (xs := [.tmp 17, .tmp 18, .tmp 19]) rfl rfl (HA ⟨yk, yn⟩) (by first | exact Les.refl _ | (repeat' (first | exact Les.refl _ | refine Les.cons ?_ ?_ | exact Le.refl _ | exact Le.own _ _ _ | exact Le.nil _ | refine Le.agg ?_))) q) ?_; intro c20 h20
    refine DOps.cm 21 rfl rfl (fun _ q => op_notc rfl rfl q) ?_; intro c21 h21
    try replace h21 := nott h21 h20
    show AGo _ _ _ _ _ _ _
    refine go_code ?_
    rcases bool_split h21 with ⟨rfl, g21⟩ | ⟨rfl, g21⟩
    · refine c_cond_f rfl ?_
      refine c_skip ?_
      refine go_blk ?_
      refine go_code ?_
      refine c_region ?_
      refine AOps.st 12 rfl rfl rfl (op_move rfl rfl ?_)
      refine AOps.st 13 rfl rfl rfl (op_add rfl rfl rfl (IntWalk.i64_in _ (by omega)) ?_)
      refine AOps.st 7 rfl rfl rfl (op_assign rfl rfl ?_)
      refine AOps.nil ?_
      refine go_lp ?_
      exact ⟨i + 1, ⟨by omega, by rw [← hu]; simp [Classical.not_not.1 g21]⟩, by simp; omega, (by repeat' (first | exact SLe.nil _ | refine SLe.cons rfl ?_ ?_ | exact Le.refl _ | exact Le.own _ _ _ | exact Le.nil _)), (by first | exact MLe.none _ | exact MLe.refl _ | (repeat' (first | exact MLe.nil | exact MLe.refl _ | refine MLe.cons _ ?_ | refine MLe.drop _ ?_)))⟩
    · refine c_cond_t rfl ?_
      refine c_seq ?_
      refine c_region ?_
      refine AOps.st 6 rfl rfl rfl (op_assign rfl rfl ?_)
      refine AOps.nil ?_
      refine go_code ?_
      refine c_ret ?_
      exact out_tmp rfl rfl (Le.refl _) (by first | exact MLe.none _ | exact MLe.refl _ | (repeat' (first | exact MLe.nil | exact MLe.refl _ | refine MLe.cons _ ?_ | refine MLe.drop _ ?_))) ⟨⟨_, iff_f (by rw [← hu]; simp [g21]), rfl⟩, rfl⟩
set_option maxHeartbeats 4000000 in
set_option maxRecDepth 100000 in
theorem Takes_c (n : Int) : PCall Try.prog 50 [.val (.int .i64 n)] (.val (.int .i64 (takes n))) := by
  refine ACall.enter Try.func50 rfl (by kernel_rfl) rfl (Nat.le_of_ble_eq_true rfl) ?_
  refine c_start ?_
  refine c_seq ?_
  refine c_region ?_
  refine AOps.st 2 rfl rfl rfl (op_assign rfl rfl ?_)
  refine AOps.nil ?_
  refine go_code ?_
  refine c_seq ?_
  refine c_seq ?_
  refine c_bool 8 (n < 1 ∨ n > 17) ?_ _ _ rfl ?_
  · skip
    refine AOps.st 3 rfl rfl rfl (op_move rfl rfl ?_)
    refine AOps.st 4 rfl rfl rfl (op_lss rfl rfl rfl ?_); intro c4 h4
    refine AOps.st 5 rfl rfl rfl (op_move rfl rfl ?_)
    rcases bool_split h4 with ⟨rfl, g4⟩ | ⟨rfl, g4⟩
    · skip
      refine AOps.gt 6 rfl rfl rfl rfl rfl (op_move rfl rfl ?_)
      refine AOps.gt 7 rfl rfl rfl rfl rfl (op_gtr rfl rfl rfl ?_); intro c7 h7
      refine AOps.st 8 rfl rfl rfl (op_pick rfl rfl rfl ?_)
      refine AOps.nil ?_
      refine BoolQ.mk rfl ?_ (by repeat' (first | exact SLe.wo _ _ | exact SLe.refl _ | refine SLe.fresh rfl ?_)) (by first | exact MLe.none _ | exact MLe.refl _ | (repeat' (first | exact MLe.nil | exact MLe.refl _ | refine MLe.cons _ ?_ | refine MLe.drop _ ?_)))
      first | (simp_all; done) | (simp_all; omega)
    · skip
      refine AOps.gf 6 rfl rfl rfl rfl rfl ?_
      refine AOps.gf 7 rfl rfl rfl rfl rfl ?_
      refine AOps.st 8 rfl rfl rfl (op_pick rfl rfl rfl ?_)
      refine AOps.nil ?_
      refine BoolQ.mk rfl ?_ (by repeat' (first | exact SLe.wo _ _ | exact SLe.refl _ | refine SLe.fresh rfl ?_)) (by first | exact MLe.none _ | exact MLe.refl _ | (repeat' (first | exact MLe.nil | exact MLe.refl _ | refine MLe.cons _ ?_ | refine MLe.drop _ ?_)))
      simp_all; done
  intro c8 h8
  refine go_code ?_
  rcases bool_split h8 with ⟨rfl, g8⟩ | ⟨rfl, g8⟩
  · refine c_cond_f rfl ?_
    refine c_skip ?_
    refine go_code ?_
    refine c_seq ?_
    refine c_seq ?_
    refine c_bool 14 (n < 11 ∨ n = 17) ?_ _ _ rfl ?_
    · skip
      refine AOps.st 9 rfl rfl rfl (op_move rfl rfl ?_)
      refine AOps.st 10 rfl rfl rfl (op_lss rfl rfl rfl ?_); intro c10 h10
      refine AOps.st 11 rfl rfl rfl (op_move rfl rfl ?_)
      rcases bool_split h10 with ⟨rfl, g10⟩ | ⟨rfl, g10⟩
      · skip
        refine AOps.gt 12 rfl rfl rfl rfl rfl (op_move rfl rfl ?_)
        refine AOps.gt 13 rfl rfl rfl rfl rfl (op_eql rfl rfl rfl ?_); intro c13 h13
        refine AOps.st 14 rfl rfl rfl (op_pick rfl rfl rfl ?_)
        refine AOps.nil ?_
        refine BoolQ.mk rfl ?_ (by repeat' (first | exact SLe.wo _ _ | exact SLe.refl _ | refine SLe.fresh rfl ?_)) (by first | exact MLe.none _ | exact MLe.refl _ | (repeat' (first | exact MLe.nil | exact MLe.refl _ | refine MLe.cons _ ?_ | refine MLe.drop _ ?_)))
        first | (simp_all; done) | (simp_all; omega)
      · skip
        refine AOps.gf 12 rfl rfl rfl rfl rfl ?_
        refine AOps.gf 13 rfl rfl rfl rfl rfl ?_
        refine AOps.st 14 rfl rfl rfl (op_pick rfl rfl rfl ?_)
        refine AOps.nil ?_
        refine BoolQ.mk rfl ?_ (by repeat' (first | exact SLe.wo _ _ | exact SLe.refl _ | refine SLe.fresh rfl ?_)) (by first | exact MLe.none _ | exact MLe.refl _ | (repeat' (first | exact MLe.nil | exact MLe.refl _ | refine MLe.cons _ ?_ | refine MLe.drop _ ?_)))
        simp_all; done
    intro c14 h14
    refine go_code ?_
    rcases bool_split h14 with ⟨rfl, g14⟩ | ⟨rfl, g14⟩
    · refine c_cond_f rfl ?_
      refine c_skip ?_
      refine go_code ?_
      refine c_seq ?_
      refine c_region ?_
      refine AOps.st 2 rfl rfl rfl (op_assign rfl rfl ?_)
      refine AOps.nil ?_
      refine go_code ?_
      refine c_ret ?_
      exact out_tmp rfl rfl (Le.ieq (by unfold takes; rw [if_neg g8, if_neg g14])) (by first | exact MLe.none _ | exact MLe.refl _ | (repeat' (first | exact MLe.nil | exact MLe.refl _ | refine MLe.cons _ ?_ | refine MLe.drop _ ?_))) ⟨rfl, rfl⟩
    · refine c_cond_t rfl ?_
      refine c_seq ?_
      refine c_region ?_
      refine AOps.st 2 rfl rfl rfl (op_assign rfl rfl ?_)
      refine AOps.nil ?_
      refine go_code ?_
      refine c_ret ?_
      exact out_tmp rfl rfl (Le.ieq (by unfold takes; rw [if_neg g8, if_pos g14])) (by first | exact MLe.none _ | exact MLe.refl _ | (repeat' (first | exact MLe.nil | exact MLe.refl _ | refine MLe.cons _ ?_ | refine MLe.drop _ ?_))) ⟨rfl, rfl⟩
  · refine c_cond_t rfl ?_
    refine c_seq ?_
    refine c_region ?_
    refine AOps.st 2 rfl rfl rfl (op_assign rfl rfl ?_)
    refine AOps.nil ?_
    refine go_code ?_
    refine c_ret ?_
    exact out_tmp rfl rfl (Le.ieq (by unfold takes; rw [if_pos g8])) (by first | exact MLe.none _ | exact MLe.refl _ | (repeat' (first | exact MLe.nil | exact MLe.refl _ | refine MLe.cons _ ?_ | refine MLe.drop _ ?_))) ⟨rfl, rfl⟩
end Go.Proofs.Ytadhakcmfkghbaa
