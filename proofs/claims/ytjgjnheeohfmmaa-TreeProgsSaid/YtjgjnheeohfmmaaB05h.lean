/- Equality of declarations: tree.SameProg and what it calls, cognateref05.SameProg and what it calls. -/
import Derived.Test.YtjgjnheeohfmmaaB05g
import Derived.Test.YtjgjnheeohfmmaaB05p
import Derived.Test.YtjgjnheeohfmmaaAL12
namespace Go.Proofs.Ytjgjnheeohfmmaa
open Go.RowKit
def Cn.key (x : Cn) := (x.s, x.ts)
def Da.key (x : Da) := (x.s, x.ps, x.cs.map Cn.key, x.dv)
def Me.key (x : Me) := (x.s, x.t)
def Cl.key (x : Cl) := (x.s, x.v, x.su, x.ms.map Me.key, x.ds.map Bi.bare)
def In.key (x : In) := (x.c, x.hd, x.cx, x.bs.map Bi.bare)
def Pg.key (x : Pg) := (x.da.map Da.key, x.cl.map Cl.key, x.ins.map In.key, x.bs.map Bi.bare)
set_option maxHeartbeats 4000000 in
set_option maxRecDepth 100000 in
theorem EqualS_c (xs ys : List ByteArray) : BCall Try.prog 129 [.seq 1 (strs xs), .seq 1 (strs ys)] (xs = ys) := by
  have hlx := strs_len xs
  have hly := strs_len ys
  refine ACall.enter Try.func129 rfl (by kernel_rfl) rfl (Nat.le_of_ble_eq_true rfl) ?_
  refine c_start ?_
  refine c_lens (t := 0) rfl (.seq _ _) (fun hmax => ?_)
  refine c_seq ?_
  refine c_region ?_
  refine AOps.st 4 rfl rfl rfl (op_assign rfl rfl ?_)
  refine AOps.nil ?_
  refine go_code ?_
  refine c_seq ?_
  refine c_seq ?_
  refine c_region ?_
  refine AOps.st 6 rfl rfl rfl (op_move rfl rfl ?_)
  refine AOps.st 7 rfl rfl rfl (op_len rfl tu_27 rfl (.seq _ _) (fun n7 => ?_))
  refine AOps.st 8 rfl rfl rfl (op_move rfl rfl ?_)
  refine AOps.st 9 rfl rfl rfl (op_len rfl tu_27 rfl (.seq _ _) (fun n9 => ?_))
  refine AOps.st 10 rfl rfl rfl (op_neq rfl rfl rfl ?_); intro c10 h10
  refine AOps.nil ?_
  refine go_code ?_
  rcases bool_split h10 with ⟨rfl, g10⟩ | ⟨rfl, g10⟩
  · refine c_cond_f rfl ?_
    refine c_skip ?_
    refine go_code ?_
    refine c_seq ?_
    refine c_seq ?_
    refine c_region ?_
    refine AOps.st 11 rfl rfl rfl (op_move rfl rfl ?_)
    refine AOps.st 12 rfl rfl rfl (op_len rfl tu_27 rfl (.seq _ _) (fun n12 => ?_))
    refine AOps.st 13 rfl rfl rfl (op_move rfl rfl ?_)
    refine AOps.nil ?_
    refine go_code ?_
    refine c_block ?_
    apply c_loopkm [2, 3, 4, 5, 6, 7, 8, 9, 10, 11, 13, 14, 15, 16, 17, 18, 19, 20, 21, 22, 23, 24, 25] (σ := Nat) (fun zz => match zz with | i => [(13, .val (.int .i64 i))]) (fun zz => match zz with | i => i ≤ xs.length ∧ Upto xs ys i) (fun zz => match zz with | i => xs.length - i) (0)
    · repeat' (first | exact Drops.nil | apply Drops.keep rfl | apply Drops.skip rfl)
    · exact ⟨by omega, Upto.zero _ _⟩
    · exact (by repeat' (first | exact SLe.nil _ | refine SLe.cons rfl ?_ ?_ | exact Le.refl _ | exact Le.own _ _ _ | exact Le.nil _))
    rintro i hI
    try dsimp only [List.cons_append, List.nil_append] at hI ⊢
    obtain ⟨hi, hu⟩ := hI
    refine c_seq ?_
    refine c_region ?_
    refine AOps.st 14 rfl rfl rfl (op_lss rfl rfl rfl ?_); intro c14 h14
    refine AOps.nil ?_
    refine go_code ?_
    refine c_seq ?_
    rcases bool_split h14 with ⟨rfl, g14⟩ | ⟨rfl, g14⟩
    · refine c_cond_f rfl ?_
      refine c_exit ?_
      refine x_code ?_
      refine x_lp ?_
      refine x_here ?_
      refine go_code ?_
      refine c_seq ?_
      refine c_region ?_
      refine AOps.st 4 rfl rfl rfl (op_assign rfl rfl ?_)
      refine AOps.nil ?_
      refine go_code ?_
      refine c_ret ?_
      exact out_tmp rfl rfl (Le.refl _) (by first | exact MLe.none _ | exact MLe.refl _ | (repeat' (first | exact MLe.nil | exact MLe.refl _ | refine MLe.cons _ ?_ | refine MLe.drop _ ?_))) ⟨⟨_, iff_t (hu.eq (by omega) (by omega)), rfl⟩, rfl⟩
    · refine c_cond_t rfl ?_
      refine c_skip ?_
      refine go_code ?_
      refine c_seq ?_
      refine c_block ?_
      refine c_seq ?_
      obtain ⟨a, hxa⟩ := get_some (l := xs) (i := i) (by first | omega | (simp at *; omega))
      have hca := strs_get hxa
      have hma := List.mem_of_getElem? hxa
      obtain ⟨b, hxb⟩ := get_some (l := ys) (i := i) (by first | omega | (simp at *; omega))
      have hcb := strs_get hxb
      have hmb := List.mem_of_getElem? hxb
      refine c_region ?_
      refine AOps.st 15 rfl rfl rfl (op_move rfl rfl ?_)
      refine AOps.st 5 rfl rfl rfl (op_assign rfl rfl ?_)
      refine AOps.nil ?_
      refine go_code ?_
      refine c_seq ?_
      refine c_drawn tmix rfl ?_
      refine DOps.st 16 rfl rfl (op_move rfl rfl ⟨rfl, rfl⟩) ?_
      refine DOps.st 17 rfl rfl (op_move rfl rfl ⟨rfl, rfl⟩) ?_
      refine DOps.st 18 rfl rfl (op_index rfl te_27 rfl (.seq _ _) rfl rfl (by assumption) ⟨rfl, rfl⟩) ?_
      first | (refine DOps.st 19 rfl rfl (op_load_m1 (i := 0) rfl ta_9 rfl rfl rfl ⟨rfl, rfl⟩) ?_) | (refine DOps.st 19 rfl rfl (op_load_m1 (i := 1) rfl ta_9 rfl rfl rfl ⟨rfl, rfl⟩) ?_) | (refine DOps.st 19 rfl rfl (op_load_m1 (i := 2) rfl ta_9 rfl rfl rfl ⟨rfl, rfl⟩) ?_) | (refine DOps.st 19 rfl rfl (op_load_m1 (i := 3) rfl ta_9 rfl rfl rfl ⟨rfl, rfl⟩) ?_) | (refine DOps.st 19 rfl rfl (op_load_m1 (i := 4) rfl ta_9 rfl rfl rfl ⟨rfl, rfl⟩) ?_) | (refine DOps.st 19 rfl rfl (op_load_m1 (i := 5) rfl ta_9 rfl rfl rfl ⟨rfl, rfl⟩) ?_) | (refine DOps.st 19 rfl rfl (op_load_c1 rfl ta_9 rfl rfl ⟨rfl, rfl⟩) ?_)
      refine DOps.st 20 rfl rfl (op_move rfl rfl ⟨rfl, rfl⟩) ?_
      refine DOps.st 21 rfl rfl (op_move rfl rfl ⟨rfl, rfl⟩) ?_
      refine DOps.st 22 rfl rfl (op_index rfl te_27 rfl (.seq _ _) rfl rfl (by assumption) ⟨rfl, rfl⟩) ?_
      first | (refine DOps.st 23 rfl rfl (op_load_m1 (i := 0) rfl ta_9 rfl rfl rfl ⟨rfl, rfl⟩) ?_) | (refine DOps.st 23 rfl rfl (op_load_m1 (i := 1) rfl ta_9 rfl rfl rfl ⟨rfl, rfl⟩) ?_) | (refine DOps.st 23 rfl rfl (op_load_m1 (i := 2) rfl ta_9 rfl rfl rfl ⟨rfl, rfl⟩) ?_) | (refine DOps.st 23 rfl rfl (op_load_m1 (i := 3) rfl ta_9 rfl rfl rfl ⟨rfl, rfl⟩) ?_) | (refine DOps.st 23 rfl rfl (op_load_m1 (i := 4) rfl ta_9 rfl rfl rfl ⟨rfl, rfl⟩) ?_) | (refine DOps.st 23 rfl rfl (op_load_m1 (i := 5) rfl ta_9 rfl rfl rfl ⟨rfl, rfl⟩) ?_) | (refine DOps.st 23 rfl rfl (op_load_c1 rfl ta_9 rfl rfl ⟨rfl, rfl⟩) ?_)
      refine DOps.cm 24 rfl rfl (fun _ q => op_sneq rfl rfl rfl q) ?_; intro c24 h24
      show AGo _ _ _ _ _ _ _
      refine go_code ?_
      rcases bool_split h24 with ⟨rfl, g24⟩ | ⟨rfl, g24⟩
      · refine c_cond_f rfl ?_
        refine c_skip ?_
        refine go_blk ?_
        refine go_code ?_
        refine c_region ?_
        refine AOps.st 25 rfl rfl rfl (op_add rfl rfl rfl (IntWalk.i64_in _ (by omega)) ?_)
        refine AOps.st 13 rfl rfl rfl (op_move rfl rfl ?_)
        refine AOps.nil ?_
        refine go_lp ?_
        exact ⟨i + 1, ⟨by omega, hu.succ hxa hxb (Classical.not_not.1 g24)⟩, by simp; omega, (by repeat' (first | exact SLe.nil _ | refine SLe.cons rfl ?_ ?_ | exact Le.refl _ | exact Le.own _ _ _ | exact Le.nil _)), (by first | exact MLe.none _ | exact MLe.refl _ | (repeat' (first | exact MLe.nil | exact MLe.refl _ | refine MLe.cons _ ?_ | refine MLe.drop _ ?_)))⟩
      · refine c_cond_t rfl ?_
        refine c_seq ?_
        refine c_region ?_
        refine AOps.st 4 rfl rfl rfl (op_assign rfl rfl ?_)
        refine AOps.nil ?_
        refine go_code ?_
        refine c_ret ?_
        exact out_tmp rfl rfl (Le.refl _) (by first | exact MLe.none _ | exact MLe.refl _ | (repeat' (first | exact MLe.nil | exact MLe.refl _ | refine MLe.cons _ ?_ | refine MLe.drop _ ?_))) ⟨⟨_, iff_f (fun e => by subst e; rw [hxa] at hxb; exact g24 (Option.some.inj hxb)), rfl⟩, rfl⟩
  · refine c_cond_t rfl ?_
    refine c_seq ?_
    refine c_region ?_
    refine AOps.st 4 rfl rfl rfl (op_assign rfl rfl ?_)
    refine AOps.nil ?_
    refine go_code ?_
    refine c_ret ?_
    exact out_tmp rfl rfl (Le.refl _) (by first | exact MLe.none _ | exact MLe.refl _ | (repeat' (first | exact MLe.nil | exact MLe.refl _ | refine MLe.cons _ ?_ | refine MLe.drop _ ?_))) ⟨⟨_, iff_f (fun e => by subst e; omega), rfl⟩, rfl⟩
set_option maxHeartbeats 4000000 in
set_option maxRecDepth 100000 in
theorem samePred_c (a b : Pr) : BCall Try.prog 136 [.agg a.cells, .agg b.cells] (id a = id b) := by
  obtain ⟨c1, ⟨k1, s1, n1, l1⟩⟩ := a
  obtain ⟨c2, ⟨k2, s2, n2, l2⟩⟩ := b
  refine ACall.enter Try.func136 rfl (by kernel_rfl) rfl (Nat.le_of_ble_eq_true rfl) ?_
  refine c_start ?_
  refine c_seq ?_
  refine c_region ?_
  refine AOps.st 2 rfl rfl rfl (op_boxc (cs' := [_, _, _, _, _]) rfl rfl rfl rfl ?_)
  refine AOps.st 3 rfl rfl rfl (op_boxc (cs' := [_, _, _, _, _]) rfl rfl rfl rfl ?_)
  refine AOps.st 4 rfl rfl rfl (op_assign rfl rfl ?_)
  refine AOps.nil ?_
  refine go_code ?_
  refine c_seq ?_
  refine c_bool 4 (c1 = c2 ∧ (⟨k1, s1, n1, l1⟩ : Ty) = ⟨k2, s2, n2, l2⟩) ?_ _ _ rfl ?_
  · skip
    refine AOps.st 5 rfl rfl rfl (op_fieldAddr_c rfl tf_157_0 rfl rfl ?_)
    refine AOps.st 6 rfl rfl rfl (op_load_c1 rfl ta_9 rfl rfl ?_)
    refine AOps.st 7 rfl rfl rfl (op_fieldAddr_c rfl tf_157_0 rfl rfl ?_)
    refine AOps.st 8 rfl rfl rfl (op_load_c1 rfl ta_9 rfl rfl ?_)
    refine AOps.st 9 rfl rfl rfl (op_seql rfl rfl rfl ?_); intro c9 h9
    refine AOps.st 10 rfl rfl rfl (op_move rfl rfl ?_)
    rcases bool_split h9 with ⟨rfl, g9⟩ | ⟨rfl, g9⟩
    · skip
      refine AOps.gf 11 rfl rfl rfl rfl rfl ?_
      refine AOps.gf 12 rfl rfl rfl rfl rfl ?_
      refine AOps.gf 13 rfl rfl rfl rfl rfl ?_
      refine AOps.gf 14 rfl rfl rfl rfl rfl ?_
      refine AOps.gf 15 rfl rfl rfl rfl rfl ?_
      refine AOps.st 16 rfl rfl rfl (op_pick rfl rfl rfl ?_)
      refine AOps.st 4 rfl rfl rfl (op_assign rfl rfl ?_)
      refine AOps.nil ?_
      refine BoolQ.mk rfl ?_ (by repeat' (first | exact SLe.wo _ _ | exact SLe.refl _ | refine SLe.fresh rfl ?_)) (by first | exact MLe.none _ | exact MLe.refl _ | (repeat' (first | exact MLe.nil | exact MLe.refl _ | refine MLe.cons _ ?_ | refine MLe.drop _ ?_)))
      simp_all
    · skip
      refine AOps.gt 11 rfl rfl rfl rfl rfl (op_fieldAddr_c rfl tf_157_1 rfl rfl ?_)
      refine AOps.gt 12 rfl rfl rfl rfl rfl (op_load_c (cs' := [_, _, _, _]) rfl ta_24 rfl rfl rfl ?_)
      refine AOps.gt 13 rfl rfl rfl rfl rfl (op_fieldAddr_c rfl tf_157_1 rfl rfl ?_)
      refine AOps.gt 14 rfl rfl rfl rfl rfl (op_load_c (cs' := [_, _, _, _]) rfl ta_24 rfl rfl rfl ?_)
      refine AOps.gt 15 rfl rfl rfl rfl rfl (op_callb (xs := [.tmp 12, .tmp 14]) rfl rfl (tSameType_c ⟨k1, s1, n1, l1⟩ ⟨k2, s2, n2, l2⟩) (by first | exact Les.refl _ | (repeat' (first | exact Les.refl _ | refine Les.cons ?_ ?_ | exact Le.refl _ | exact Le.own _ _ _ | exact Le.nil _ | refine Le.agg ?_))) ?_); intro c15 h15
      refine AOps.st 16 rfl rfl rfl (op_pick rfl rfl rfl ?_)
      refine AOps.st 4 rfl rfl rfl (op_assign rfl rfl ?_)
      refine AOps.nil ?_
      refine BoolQ.mk rfl ?_ (by repeat' (first | exact SLe.wo _ _ | exact SLe.refl _ | refine SLe.fresh rfl ?_)) (by first | exact MLe.none _ | exact MLe.refl _ | (repeat' (first | exact MLe.nil | exact MLe.refl _ | refine MLe.cons _ ?_ | refine MLe.drop _ ?_)))
      simp_all
  intro c4 h4
  refine go_code ?_
  refine c_ret ?_
  exact out_tmp rfl rfl (Le.refl _) (by first | exact MLe.none _ | exact MLe.refl _ | (repeat' (first | exact MLe.nil | exact MLe.refl _ | refine MLe.cons _ ?_ | refine MLe.drop _ ?_))) ⟨⟨_, h4.trans (by simp), rfl⟩, rfl⟩
set_option maxHeartbeats 4000000 in
set_option maxRecDepth 100000 in
theorem sameCon_c (a b : Cn) : BCall Try.prog 128 [.agg a.cells, .agg b.cells] (a.key = b.key) := by
  obtain ⟨c1, t1, p1⟩ := a
  obtain ⟨c2, t2, p2⟩ := b
  have H := Eqs_Ty id 47 t1 t2 (fun x _ y => tSameType_c x y)
  refine ACall.enter Try.func128 rfl (by kernel_rfl) rfl (Nat.le_of_ble_eq_true rfl) ?_
  refine c_start ?_
  refine c_seq ?_
  refine c_region ?_
  refine AOps.st 2 rfl rfl rfl (op_boxc (cs' := [_, _, _]) rfl rfl rfl rfl ?_)
  refine AOps.st 3 rfl rfl rfl (op_boxc (cs' := [_, _, _]) rfl rfl rfl rfl ?_)
  refine AOps.st 4 rfl rfl rfl (op_assign rfl rfl ?_)
  refine AOps.nil ?_
  refine go_code ?_
  refine c_seq ?_
  refine c_bool 4 (c1 = c2 ∧ t1 = t2) ?_ _ _ rfl ?_
  · skip
    refine AOps.st 5 rfl rfl rfl (op_fieldAddr_c rfl tf_148_0 rfl rfl ?_)
    refine AOps.st 6 rfl rfl rfl (op_load_c1 rfl ta_9 rfl rfl ?_)
    refine AOps.st 7 rfl rfl rfl (op_fieldAddr_c rfl tf_148_0 rfl rfl ?_)
    refine AOps.st 8 rfl rfl rfl (op_load_c1 rfl ta_9 rfl rfl ?_)
    refine AOps.st 9 rfl rfl rfl (op_seql rfl rfl rfl ?_); intro c9 h9
    refine AOps.st 10 rfl rfl rfl (op_move rfl rfl ?_)
    rcases bool_split h9 with ⟨rfl, g9⟩ | ⟨rfl, g9⟩
    · skip
      refine AOps.gf 11 rfl rfl rfl rfl rfl ?_
      refine AOps.gf 12 rfl rfl rfl rfl rfl ?_
      refine AOps.gf 13 rfl rfl rfl rfl rfl ?_
      refine AOps.gf 14 rfl rfl rfl rfl rfl ?_
      refine AOps.gf 15 rfl rfl rfl rfl rfl ?_
      refine AOps.st 16 rfl rfl rfl (op_pick rfl rfl rfl ?_)
      refine AOps.st 4 rfl rfl rfl (op_assign rfl rfl ?_)
      refine AOps.nil ?_
      refine BoolQ.mk rfl ?_ (by repeat' (first | exact SLe.wo _ _ | exact SLe.refl _ | refine SLe.fresh rfl ?_)) (by first | exact MLe.none _ | exact MLe.refl _ | (repeat' (first | exact MLe.nil | exact MLe.refl _ | refine MLe.cons _ ?_ | refine MLe.drop _ ?_)))
      simp_all
    · skip
      refine AOps.gt 11 rfl rfl rfl rfl rfl (op_fieldAddr_c rfl tf_148_1 rfl rfl ?_)
      refine AOps.gt 12 rfl rfl rfl rfl rfl (op_load_c1 rfl ta_22 rfl rfl ?_)
      refine AOps.gt 13 rfl rfl rfl rfl rfl (op_fieldAddr_c rfl tf_148_1 rfl rfl ?_)
      refine AOps.gt 14 rfl rfl rfl rfl rfl (op_load_c1 rfl ta_22 rfl rfl ?_)
      refine AOps.gt 15 rfl rfl rfl rfl rfl (op_callb (xs := [.tmp 12, .tmp 14, .func 47]) rfl rfl (H) (by first | exact Les.refl _ | (repeat' (first | exact Les.refl _ | refine Les.cons ?_ ?_ | exact Le.refl _ | exact Le.own _ _ _ | exact Le.nil _ | refine Le.agg ?_))) ?_); intro c15 h15
      refine AOps.st 16 rfl rfl rfl (op_pick rfl rfl rfl ?_)
      refine AOps.st 4 rfl rfl rfl (op_assign rfl rfl ?_)
      refine AOps.nil ?_
      refine BoolQ.mk rfl ?_ (by repeat' (first | exact SLe.wo _ _ | exact SLe.refl _ | refine SLe.fresh rfl ?_)) (by first | exact MLe.none _ | exact MLe.refl _ | (repeat' (first | exact MLe.nil | exact MLe.refl _ | refine MLe.cons _ ?_ | refine MLe.drop _ ?_)))
      simp_all
  intro c4 h4
  refine go_code ?_
  refine c_ret ?_
  exact out_tmp rfl rfl (Le.refl _) (by first | exact MLe.none _ | exact MLe.refl _ | (repeat' (first | exact MLe.nil | exact MLe.refl _ | refine MLe.cons _ ?_ | refine MLe.drop _ ?_))) ⟨⟨_, h4.trans (by simp [Cn.key, Cn.s, Cn.ts]), rfl⟩, rfl⟩
set_option maxHeartbeats 4000000 in
set_option maxRecDepth 100000 in
theorem sameMeth_c (a b : Me) : BCall Try.prog 132 [.agg a.cells, .agg b.cells] (a.key = b.key) := by
  obtain ⟨c1, ⟨k1, s1, n1, l1⟩, p1⟩ := a
  obtain ⟨c2, ⟨k2, s2, n2, l2⟩, p2⟩ := b
  refine ACall.enter Try.func132 rfl (by kernel_rfl) rfl (Nat.le_of_ble_eq_true rfl) ?_
  refine c_start ?_
  refine c_seq ?_
  refine c_region ?_
  refine AOps.st 2 rfl rfl rfl (op_boxc (cs' := [_, _, _, _, _, _]) rfl rfl rfl rfl ?_)
  refine AOps.st 3 rfl rfl rfl (op_boxc (cs' := [_, _, _, _, _, _]) rfl rfl rfl rfl ?_)
  refine AOps.st 4 rfl rfl rfl (op_assign rfl rfl ?_)
  refine AOps.nil ?_
  refine go_code ?_
  refine c_seq ?_
  refine c_bool 4 (c1 = c2 ∧ (⟨k1, s1, n1, l1⟩ : Ty) = ⟨k2, s2, n2, l2⟩) ?_ _ _ rfl ?_
  · skip
    refine AOps.st 5 rfl rfl rfl (op_fieldAddr_c rfl tf_152_0 rfl rfl ?_)
    refine AOps.st 6 rfl rfl rfl (op_load_c1 rfl ta_9 rfl rfl ?_)
    refine AOps.st 7 rfl rfl rfl (op_fieldAddr_c rfl tf_152_0 rfl rfl ?_)
    refine AOps.st 8 rfl rfl rfl (op_load_c1 rfl ta_9 rfl rfl ?_)
    refine AOps.st 9 rfl rfl rfl (op_seql rfl rfl rfl ?_); intro c9 h9
    refine AOps.st 10 rfl rfl rfl (op_move rfl rfl ?_)
    rcases bool_split h9 with ⟨rfl, g9⟩ | ⟨rfl, g9⟩
    · skip
      refine AOps.gf 11 rfl rfl rfl rfl rfl ?_
      refine AOps.gf 12 rfl rfl rfl rfl rfl ?_
      refine AOps.gf 13 rfl rfl rfl rfl rfl ?_
      refine AOps.gf 14 rfl rfl rfl rfl rfl ?_
      refine AOps.gf 15 rfl rfl rfl rfl rfl ?_
      refine AOps.st 16 rfl rfl rfl (op_pick rfl rfl rfl ?_)
      refine AOps.st 4 rfl rfl rfl (op_assign rfl rfl ?_)
      refine AOps.nil ?_
      refine BoolQ.mk rfl ?_ (by repeat' (first | exact SLe.wo _ _ | exact SLe.refl _ | refine SLe.fresh rfl ?_)) (by first | exact MLe.none _ | exact MLe.refl _ | (repeat' (first | exact MLe.nil | exact MLe.refl _ | refine MLe.cons _ ?_ | refine MLe.drop _ ?_)))
      simp_all
    · skip
      refine AOps.gt 11 rfl rfl rfl rfl rfl (op_fieldAddr_c rfl tf_152_1 rfl rfl ?_)
      refine AOps.gt 12 rfl rfl rfl rfl rfl (op_load_c (cs' := [_, _, _, _]) rfl ta_24 rfl rfl rfl ?_)
      refine AOps.gt 13 rfl rfl rfl rfl rfl (op_fieldAddr_c rfl tf_152_1 rfl rfl ?_)
      refine AOps.gt 14 rfl rfl rfl rfl rfl (op_load_c (cs' := [_, _, _, _]) rfl ta_24 rfl rfl rfl ?_)
      refine AOps.gt 15 rfl rfl rfl rfl rfl (op_callb (xs := [.tmp 12, .tmp 14]) rfl rfl (tSameType_c ⟨k1, s1, n1, l1⟩ ⟨k2, s2, n2, l2⟩) (by first | exact Les.refl _ | (repeat' (first | exact Les.refl _ | refine Les.cons ?_ ?_ | exact Le.refl _ | exact Le.own _ _ _ | exact Le.nil _ | refine Le.agg ?_))) ?_); intro c15 h15
      refine AOps.st 16 rfl rfl rfl (op_pick rfl rfl rfl ?_)
      refine AOps.st 4 rfl rfl rfl (op_assign rfl rfl ?_)
      refine AOps.nil ?_
      refine BoolQ.mk rfl ?_ (by repeat' (first | exact SLe.wo _ _ | exact SLe.refl _ | refine SLe.fresh rfl ?_)) (by first | exact MLe.none _ | exact MLe.refl _ | (repeat' (first | exact MLe.nil | exact MLe.refl _ | refine MLe.cons _ ?_ | refine MLe.drop _ ?_)))
      simp_all
  intro c4 h4
  refine go_code ?_
  refine c_ret ?_
  exact out_tmp rfl rfl (Le.refl _) (by first | exact MLe.none _ | exact MLe.refl _ | (repeat' (first | exact MLe.nil | exact MLe.refl _ | refine MLe.cons _ ?_ | refine MLe.drop _ ?_))) ⟨⟨_, h4.trans (by simp [Me.key, Me.s, Me.t]), rfl⟩, rfl⟩
set_option maxHeartbeats 4000000 in
set_option maxRecDepth 100000 in
theorem sameData_c (a b : Da) : BCall Try.prog 100 [.agg a.cells, .agg b.cells] (a.key = b.key) := by
  obtain ⟨s1, ps1, cs1, dv1, p1⟩ := a
  obtain ⟨s2, ps2, cs2, dv2, p2⟩ := b
  have H := Eqs_Cn Cn.key 128 cs1 cs2 (fun x _ y => sameCon_c x y)
  refine ACall.enter Try.func100 rfl (by kernel_rfl) rfl (Nat.le_of_ble_eq_true rfl) ?_
  refine c_start ?_
  refine c_seq ?_
  refine c_region ?_
  refine AOps.st 2 rfl rfl rfl (op_boxc (cs' := [_, _, _, _, _]) rfl rfl rfl rfl ?_)
  refine AOps.st 3 rfl rfl rfl (op_boxc (cs' := [_, _, _, _, _]) rfl rfl rfl rfl ?_)
  refine AOps.st 4 rfl rfl rfl (op_assign rfl rfl ?_)
  refine AOps.nil ?_
  refine go_code ?_
  refine c_seq ?_
  refine c_region ?_
  refine AOps.st 5 rfl rfl rfl (op_assign rfl rfl ?_)
  refine AOps.nil ?_
  refine go_code ?_
  refine c_seq ?_
  refine c_bool 4 (s1 = s2 ∧ ps1 = ps2 ∧ cs1.map Cn.key = cs2.map Cn.key ∧ dv1 = dv2) ?_ _ _ rfl ?_
  · skip
    refine AOps.st 6 rfl rfl rfl (op_fieldAddr_c rfl tf_130_0 rfl rfl ?_)
    refine AOps.st 7 rfl rfl rfl (op_load_c1 rfl ta_9 rfl rfl ?_)
    refine AOps.st 8 rfl rfl rfl (op_fieldAddr_c rfl tf_130_0 rfl rfl ?_)
    refine AOps.st 9 rfl rfl rfl (op_load_c1 rfl ta_9 rfl rfl ?_)
    refine AOps.st 10 rfl rfl rfl (op_seql rfl rfl rfl ?_); intro c10 h10
    refine AOps.st 11 rfl rfl rfl (op_move rfl rfl ?_)
    rcases bool_split h10 with ⟨rfl, g10⟩ | ⟨rfl, g10⟩
    · skip
      refine AOps.gf 12 rfl rfl rfl rfl rfl ?_
      refine AOps.gf 13 rfl rfl rfl rfl rfl ?_
      refine AOps.gf 14 rfl rfl rfl rfl rfl ?_
      refine AOps.gf 15 rfl rfl rfl rfl rfl ?_
      refine AOps.gf 16 rfl rfl rfl rfl rfl ?_
      refine AOps.st 17 rfl rfl rfl (op_pick rfl rfl rfl ?_)
      refine AOps.st 18 rfl rfl rfl (op_move rfl rfl ?_)
      refine AOps.gf 19 rfl rfl rfl rfl rfl ?_
      refine AOps.gf 20 rfl rfl rfl rfl rfl ?_
      refine AOps.gf 21 rfl rfl rfl rfl rfl ?_
      refine AOps.gf 22 rfl rfl rfl rfl rfl ?_
      refine AOps.gf 23 rfl rfl rfl rfl rfl ?_
      refine AOps.gf 24 rfl rfl rfl rfl rfl ?_
      refine AOps.st 25 rfl rfl rfl (op_pick rfl rfl rfl ?_)
      refine AOps.st 26 rfl rfl rfl (op_move rfl rfl ?_)
      refine AOps.gf 27 rfl rfl rfl rfl rfl ?_
      refine AOps.gf 28 rfl rfl rfl rfl rfl ?_
      refine AOps.gf 29 rfl rfl rfl rfl rfl ?_
      refine AOps.gf 30 rfl rfl rfl rfl rfl ?_
      refine AOps.gf 31 rfl rfl rfl rfl rfl ?_
      refine AOps.st 32 rfl rfl rfl (op_pick rfl rfl rfl ?_)
      refine AOps.st 4 rfl rfl rfl (op_assign rfl rfl ?_)
      refine AOps.nil ?_
      refine BoolQ.mk rfl ?_ (by repeat' (first | exact SLe.wo _ _ | exact SLe.refl _ | refine SLe.fresh rfl ?_)) (by first | exact MLe.none _ | exact MLe.refl _ | (repeat' (first | exact MLe.nil | exact MLe.refl _ | refine MLe.cons _ ?_ | refine MLe.drop _ ?_)))
      simp_all
    · skip
      refine AOps.gt 12 rfl rfl rfl rfl rfl (op_fieldAddr_c rfl tf_130_1 rfl rfl ?_)
      refine AOps.gt 13 rfl rfl rfl rfl rfl (op_load_c1 rfl ta_27 rfl rfl ?_)
      refine AOps.gt 14 rfl rfl rfl rfl rfl (op_fieldAddr_c rfl tf_130_1 rfl rfl ?_)
      refine AOps.gt 15 rfl rfl rfl rfl rfl (op_load_c1 rfl ta_27 rfl rfl ?_)
      refine AOps.gt 16 rfl rfl rfl rfl rfl (op_callb (xs := [.tmp 13, .tmp 15]) rfl rfl (EqualS_c ps1 ps2) (by first | exact Les.refl _ | (repeat' (first | exact Les.refl _ | refine Les.cons ?_ ?_ | exact Le.refl _ | exact Le.own _ _ _ | exact Le.nil _ | refine Le.agg ?_))) ?_); intro c16 h16
      refine AOps.st 17 rfl rfl rfl (op_pick rfl rfl rfl ?_)
      refine AOps.st 18 rfl rfl rfl (op_move rfl rfl ?_)
      rcases bool_split h16 with ⟨rfl, g16⟩ | ⟨rfl, g16⟩
      · skip
        refine AOps.gf 19 rfl rfl rfl rfl rfl ?_
        refine AOps.gf 20 rfl rfl rfl rfl rfl ?_
        refine AOps.gf 21 rfl rfl rfl rfl rfl ?_
        refine AOps.gf 22 rfl rfl rfl rfl rfl ?_
        refine AOps.gf 23 rfl rfl rfl rfl rfl ?_
        refine AOps.gf 24 rfl rfl rfl rfl rfl ?_
        refine AOps.st 25 rfl rfl rfl (op_pick rfl rfl rfl ?_)
        refine AOps.st 26 rfl rfl rfl (op_move rfl rfl ?_)
        refine AOps.gf 27 rfl rfl rfl rfl rfl ?_
        refine AOps.gf 28 rfl rfl rfl rfl rfl ?_
        refine AOps.gf 29 rfl rfl rfl rfl rfl ?_
        refine AOps.gf 30 rfl rfl rfl rfl rfl ?_
        refine AOps.gf 31 rfl rfl rfl rfl rfl ?_
        refine AOps.st 32 rfl rfl rfl (op_pick rfl rfl rfl ?_)
        refine AOps.st 4 rfl rfl rfl (op_assign rfl rfl ?_)
        refine AOps.nil ?_
        refine BoolQ.mk rfl ?_ (by repeat' (first | exact SLe.wo _ _ | exact SLe.refl _ | refine SLe.fresh rfl ?_)) (by first | exact MLe.none _ | exact MLe.refl _ | (repeat' (first | exact MLe.nil | exact MLe.refl _ | refine MLe.cons _ ?_ | refine MLe.drop _ ?_)))
        simp_all
      · skip
        refine AOps.gt 19 rfl rfl rfl rfl rfl (op_fieldAddr_c rfl tf_130_2 rfl rfl ?_)
        refine AOps.gt 20 rfl rfl rfl rfl rfl (op_load_c1 rfl ta_128 rfl rfl ?_)
        refine AOps.gt 21 rfl rfl rfl rfl rfl (op_fieldAddr_c rfl tf_130_2 rfl rfl ?_)
        refine AOps.gt 22 rfl rfl rfl rfl rfl (op_load_c1 rfl ta_128 rfl rfl ?_)
        refine AOps.gt 23 rfl rfl rfl rfl rfl (op_move rfl rfl ?_)
        refine AOps.gt 24 rfl rfl rfl rfl rfl (op_callb (xs := [.tmp 20, .tmp 22, .tmp 23]) rfl rfl (H) (by first | exact Les.refl _ | (repeat' (first | exact Les.refl _ | refine Les.cons ?_ ?_ | exact Le.refl _ | exact Le.own _ _ _ | exact Le.nil _ | refine Le.agg ?_))) ?_); intro c24 h24
        refine AOps.st 25 rfl rfl rfl (op_pick rfl rfl rfl ?_)
        refine AOps.st 26 rfl rfl rfl (op_move rfl rfl ?_)
        rcases bool_split h24 with ⟨rfl, g24⟩ | ⟨rfl, g24⟩
        · skip
          refine AOps.gf 27 rfl rfl rfl rfl rfl ?_
          refine AOps.gf 28 rfl rfl rfl rfl rfl ?_
          refine AOps.gf 29 rfl rfl rfl rfl rfl ?_
          refine AOps.gf 30 rfl rfl rfl rfl rfl ?_
          refine AOps.gf 31 rfl rfl rfl rfl rfl ?_
          refine AOps.st 32 rfl rfl rfl (op_pick rfl rfl rfl ?_)
          refine AOps.st 4 rfl rfl rfl (op_assign rfl rfl ?_)
          refine AOps.nil ?_
          refine BoolQ.mk rfl ?_ (by repeat' (first | exact SLe.wo _ _ | exact SLe.refl _ | refine SLe.fresh rfl ?_)) (by first | exact MLe.none _ | exact MLe.refl _ | (repeat' (first | exact MLe.nil | exact MLe.refl _ | refine MLe.cons _ ?_ | refine MLe.drop _ ?_)))
          simp_all
        · skip
          refine AOps.gt 27 rfl rfl rfl rfl rfl (op_fieldAddr_c rfl tf_130_3 rfl rfl ?_)
          refine AOps.gt 28 rfl rfl rfl rfl rfl (op_load_c1 rfl ta_27 rfl rfl ?_)
          refine AOps.gt 29 rfl rfl rfl rfl rfl (op_fieldAddr_c rfl tf_130_3 rfl rfl ?_)
          refine AOps.gt 30 rfl rfl rfl rfl rfl (op_load_c1 rfl ta_27 rfl rfl ?_)
          refine AOps.gt 31 rfl rfl rfl rfl rfl (op_callb (xs := [.tmp 28, .tmp 30]) rfl rfl (EqualS_c dv1 dv2) (by first | exact Les.refl _ | (repeat' (first | exact Les.refl _ | refine Les.cons ?_ ?_ | exact Le.refl _ | exact Le.own _ _ _ | exact Le.nil _ | refine Le.agg ?_))) ?_); intro c31 h31
          refine AOps.st 32 rfl rfl rfl (op_pick rfl rfl rfl ?_)
          refine AOps.st 4 rfl rfl rfl (op_assign rfl rfl ?_)
          refine AOps.nil ?_
          refine BoolQ.mk rfl ?_ (by repeat' (first | exact SLe.wo _ _ | exact SLe.refl _ | refine SLe.fresh rfl ?_)) (by first | exact MLe.none _ | exact MLe.refl _ | (repeat' (first | exact MLe.nil | exact MLe.refl _ | refine MLe.cons _ ?_ | refine MLe.drop _ ?_)))
          simp_all
  intro c4 h4
  refine go_code ?_
  refine c_ret ?_
  exact out_tmp rfl rfl (Le.refl _) (by first | exact MLe.none _ | exact MLe.refl _ | (repeat' (first | exact MLe.nil | exact MLe.refl _ | refine MLe.cons _ ?_ | refine MLe.drop _ ?_))) ⟨⟨_, h4.trans (by simp [Da.key, Da.s, Da.ps, Da.cs, Da.dv]), rfl⟩, rfl⟩
set_option maxHeartbeats 4000000 in
set_option maxRecDepth 100000 in
theorem sameClass_c (a b : Cl) : BCall Try.prog 102 [.agg a.cells, .agg b.cells] (a.key = b.key) := by
  obtain ⟨s1, v1, su1, ms1, ds1, p1⟩ := a
  obtain ⟨s2, v2, su2, ms2, ds2, p2⟩ := b
  have H := Eqs_Me Me.key 132 ms1 ms2 (fun x _ y => sameMeth_c x y)
  have H2 := Eqs_Bi Bi.bare 90 ds1 ds2 (fun x _ y => sameBind_c x y)
  refine ACall.enter Try.func102 rfl (by kernel_rfl) rfl (Nat.le_of_ble_eq_true rfl) ?_
  refine c_start ?_
  refine c_seq ?_
  refine c_region ?_
  refine AOps.st 2 rfl rfl rfl (op_boxc (cs' := [_, _, _, _, _, _]) rfl rfl rfl rfl ?_)
  refine AOps.st 3 rfl rfl rfl (op_boxc (cs' := [_, _, _, _, _, _]) rfl rfl rfl rfl ?_)
  refine AOps.st 4 rfl rfl rfl (op_assign rfl rfl ?_)
  refine AOps.nil ?_
  refine go_code ?_
  refine c_seq ?_
  refine c_region ?_
  refine AOps.st 5 rfl rfl rfl (op_assign rfl rfl ?_)
  refine AOps.nil ?_
  refine go_code ?_
  refine c_seq ?_
  refine c_bool 4 (s1 = s2 ∧ v1 = v2 ∧ su1 = su2 ∧ ms1.map Me.key = ms2.map Me.key ∧ ds1.map Bi.bare = ds2.map Bi.bare) ?_ _ _ rfl ?_
  · skip
    refine AOps.st 6 rfl rfl rfl (op_fieldAddr_c rfl tf_124_0 rfl rfl ?_)
    refine AOps.st 7 rfl rfl rfl (op_load_c1 rfl ta_9 rfl rfl ?_)
    refine AOps.st 8 rfl rfl rfl (op_fieldAddr_c rfl tf_124_0 rfl rfl ?_)
    refine AOps.st 9 rfl rfl rfl (op_load_c1 rfl ta_9 rfl rfl ?_)
    refine AOps.st 10 rfl rfl rfl (op_seql rfl rfl rfl ?_); intro c10 h10
    refine AOps.st 11 rfl rfl rfl (op_move rfl rfl ?_)
    rcases bool_split h10 with ⟨rfl, g10⟩ | ⟨rfl, g10⟩
    · skip
      refine AOps.gf 12 rfl rfl rfl rfl rfl ?_
      refine AOps.gf 13 rfl rfl rfl rfl rfl ?_
      refine AOps.gf 14 rfl rfl rfl rfl rfl ?_
      refine AOps.gf 15 rfl rfl rfl rfl rfl ?_
      refine AOps.gf 16 rfl rfl rfl rfl rfl ?_
      refine AOps.st 17 rfl rfl rfl (op_pick rfl rfl rfl ?_)
      refine AOps.st 18 rfl rfl rfl (op_move rfl rfl ?_)
      refine AOps.gf 19 rfl rfl rfl rfl rfl ?_
      refine AOps.gf 20 rfl rfl rfl rfl rfl ?_
      refine AOps.gf 21 rfl rfl rfl rfl rfl ?_
      refine AOps.gf 22 rfl rfl rfl rfl rfl ?_
      refine AOps.gf 23 rfl rfl rfl rfl rfl ?_
      refine AOps.st 24 rfl rfl rfl (op_pick rfl rfl rfl ?_)
      refine AOps.st 25 rfl rfl rfl (op_move rfl rfl ?_)
      refine AOps.gf 26 rfl rfl rfl rfl rfl ?_
      refine AOps.gf 27 rfl rfl rfl rfl rfl ?_
      refine AOps.gf 28 rfl rfl rfl rfl rfl ?_
      refine AOps.gf 29 rfl rfl rfl rfl rfl ?_
      refine AOps.gf 30 rfl rfl rfl rfl rfl ?_
      refine AOps.gf 31 rfl rfl rfl rfl rfl ?_
      refine AOps.st 32 rfl rfl rfl (op_pick rfl rfl rfl ?_)
      refine AOps.st 33 rfl rfl rfl (op_move rfl rfl ?_)
      refine AOps.gf 34 rfl rfl rfl rfl rfl ?_
      refine AOps.gf 35 rfl rfl rfl rfl rfl ?_
      refine AOps.gf 36 rfl rfl rfl rfl rfl ?_
      refine AOps.gf 37 rfl rfl rfl rfl rfl ?_
      refine AOps.gf 38 rfl rfl rfl rfl rfl ?_
      refine AOps.st 39 rfl rfl rfl (op_pick rfl rfl rfl ?_)
      refine AOps.st 4 rfl rfl rfl (op_assign rfl rfl ?_)
      refine AOps.nil ?_
      refine BoolQ.mk rfl ?_ (by repeat' (first | exact SLe.wo _ _ | exact SLe.refl _ | refine SLe.fresh rfl ?_)) (by first | exact MLe.none _ | exact MLe.refl _ | (repeat' (first | exact MLe.nil | exact MLe.refl _ | refine MLe.cons _ ?_ | refine MLe.drop _ ?_)))
      simp_all
    · skip
      refine AOps.gt 12 rfl rfl rfl rfl rfl (op_fieldAddr_c rfl tf_124_1 rfl rfl ?_)
      refine AOps.gt 13 rfl rfl rfl rfl rfl (op_load_c1 rfl ta_9 rfl rfl ?_)
      refine AOps.gt 14 rfl rfl rfl rfl rfl (op_fieldAddr_c rfl tf_124_1 rfl rfl ?_)
      refine AOps.gt 15 rfl rfl rfl rfl rfl (op_load_c1 rfl ta_9 rfl rfl ?_)
      refine AOps.gt 16 rfl rfl rfl rfl rfl (op_seql rfl rfl rfl ?_); intro c16 h16
      refine AOps.st 17 rfl rfl rfl (op_pick rfl rfl rfl ?_)
      refine AOps.st 18 rfl rfl rfl (op_move rfl rfl ?_)
      rcases bool_split h16 with ⟨rfl, g16⟩ | ⟨rfl, g16⟩
      · skip
        refine AOps.gf 19 rfl rfl rfl rfl rfl ?_
        refine AOps.gf 20 rfl rfl rfl rfl rfl ?_
        refine AOps.gf 21 rfl rfl rfl rfl rfl ?_
        refine AOps.gf 22 rfl rfl rfl rfl rfl ?_
        refine AOps.gf 23 rfl rfl rfl rfl rfl ?_
        refine AOps.st 24 rfl rfl rfl (op_pick rfl rfl rfl ?_)
        refine AOps.st 25 rfl rfl rfl (op_move rfl rfl ?_)
        refine AOps.gf 26 rfl rfl rfl rfl rfl ?_
        refine AOps.gf 27 rfl rfl rfl rfl rfl ?_
        refine AOps.gf 28 rfl rfl rfl rfl rfl ?_
        refine AOps.gf 29 rfl rfl rfl rfl rfl ?_
        refine AOps.gf 30 rfl rfl rfl rfl rfl ?_
        refine AOps.gf 31 rfl rfl rfl rfl rfl ?_
        refine AOps.st 32 rfl rfl rfl (op_pick rfl rfl rfl ?_)
        refine AOps.st 33 rfl rfl rfl (op_move rfl rfl ?_)
        refine AOps.gf 34 rfl rfl rfl rfl rfl ?_
        refine AOps.gf 35 rfl rfl rfl rfl rfl ?_
        refine AOps.gf 36 rfl rfl rfl rfl rfl ?_
        refine AOps.gf 37 rfl rfl rfl rfl rfl ?_
        refine AOps.gf 38 rfl rfl rfl rfl rfl ?_
        refine AOps.st 39 rfl rfl rfl (op_pick rfl rfl rfl ?_)
        refine AOps.st 4 rfl rfl rfl (op_assign rfl rfl ?_)
        refine AOps.nil ?_
        refine BoolQ.mk rfl ?_ (by repeat' (first | exact SLe.wo _ _ | exact SLe.refl _ | refine SLe.fresh rfl ?_)) (by first | exact MLe.none _ | exact MLe.refl _ | (repeat' (first | exact MLe.nil | exact MLe.refl _ | refine MLe.cons _ ?_ | refine MLe.drop _ ?_)))
        simp_all
      · skip
        refine AOps.gt 19 rfl rfl rfl rfl rfl (op_fieldAddr_c rfl tf_124_2 rfl rfl ?_)
        refine AOps.gt 20 rfl rfl rfl rfl rfl (op_load_c1 rfl ta_27 rfl rfl ?_)
        refine AOps.gt 21 rfl rfl rfl rfl rfl (op_fieldAddr_c rfl tf_124_2 rfl rfl ?_)
        refine AOps.gt 22 rfl rfl rfl rfl rfl (op_load_c1 rfl ta_27 rfl rfl ?_)
        refine AOps.gt 23 rfl rfl rfl rfl rfl (op_callb (xs := [.tmp 20, .tmp 22]) rfl rfl (EqualS_c su1 su2) (by first | exact Les.refl _ | (repeat' (first | exact Les.refl _ | refine Les.cons ?_ ?_ | exact Le.refl _ | exact Le.own _ _ _ | exact Le.nil _ | refine Le.agg ?_))) ?_); intro c23 h23
        refine AOps.st 24 rfl rfl rfl (op_pick rfl rfl rfl ?_)
        refine AOps.st 25 rfl rfl rfl (op_move rfl rfl ?_)
        rcases bool_split h23 with ⟨rfl, g23⟩ | ⟨rfl, g23⟩
        · skip
          refine AOps.gf 26 rfl rfl rfl rfl rfl ?_
          refine AOps.gf 27 rfl rfl rfl rfl rfl ?_
          refine AOps.gf 28 rfl rfl rfl rfl rfl ?_
          refine AOps.gf 29 rfl rfl rfl rfl rfl ?_
          refine AOps.gf 30 rfl rfl rfl rfl rfl ?_
          refine AOps.gf 31 rfl rfl rfl rfl rfl ?_
          refine AOps.st 32 rfl rfl rfl (op_pick rfl rfl rfl ?_)
          refine AOps.st 33 rfl rfl rfl (op_move rfl rfl ?_)
          refine AOps.gf 34 rfl rfl rfl rfl rfl ?_
          refine AOps.gf 35 rfl rfl rfl rfl rfl ?_
          refine AOps.gf 36 rfl rfl rfl rfl rfl ?_
          refine AOps.gf 37 rfl rfl rfl rfl rfl ?_
          refine AOps.gf 38 rfl rfl rfl rfl rfl ?_
          refine AOps.st 39 rfl rfl rfl (op_pick rfl rfl rfl ?_)
          refine AOps.st 4 rfl rfl rfl (op_assign rfl rfl ?_)
          refine AOps.nil ?_
          refine BoolQ.mk rfl ?_ (by repeat' (first | exact SLe.wo _ _ | exact SLe.refl _ | refine SLe.fresh rfl ?_)) (by first | exact MLe.none _ | exact MLe.refl _ | (repeat' (first | exact MLe.nil | exact MLe.refl _ | refine MLe.cons _ ?_ | refine MLe.drop _ ?_)))
          simp_all
        · skip
          refine AOps.gt 26 rfl rfl rfl rfl rfl (op_fieldAddr_c rfl tf_124_3 rfl rfl ?_)
          refine AOps.gt 27 rfl rfl rfl rfl rfl (op_load_c1 rfl ta_122 rfl rfl ?_)
          refine AOps.gt 28 rfl rfl rfl rfl rfl (op_fieldAddr_c rfl tf_124_3 rfl rfl ?_)
          refine AOps.gt 29 rfl rfl rfl rfl rfl (op_load_c1 rfl ta_122 rfl rfl ?_)
          refine AOps.gt 30 rfl rfl rfl rfl rfl (op_move rfl rfl ?_)
          refine AOps.gt 31 rfl rfl rfl rfl rfl (op_callb (xs := [.tmp 27, .tmp 29, .tmp 30]) rfl rfl (H) (by first | exact Les.refl _ | (repeat' (first | exact Les.refl _ | refine Les.cons ?_ ?_ | exact Le.refl _ | exact Le.own _ _ _ | exact Le.nil _ | refine Le.agg ?_))) ?_); intro c31 h31
          refine AOps.st 32 rfl rfl rfl (op_pick rfl rfl rfl ?_)
          refine AOps.st 33 rfl rfl rfl (op_move rfl rfl ?_)
          rcases bool_split h31 with ⟨rfl, g31⟩ | ⟨rfl, g31⟩
          · skip
            refine AOps.gf 34 rfl rfl rfl rfl rfl ?_
            refine AOps.gf 35 rfl rfl rfl rfl rfl ?_
            refine AOps.gf 36 rfl rfl rfl rfl rfl ?_
            refine AOps.gf 37 rfl rfl rfl rfl rfl ?_
            refine AOps.gf 38 rfl rfl rfl rfl rfl ?_
            refine AOps.st 39 rfl rfl rfl (op_pick rfl rfl rfl ?_)
            refine AOps.st 4 rfl rfl rfl (op_assign rfl rfl ?_)
            refine AOps.nil ?_
            refine BoolQ.mk rfl ?_ (by repeat' (first | exact SLe.wo _ _ | exact SLe.refl _ | refine SLe.fresh rfl ?_)) (by first | exact MLe.none _ | exact MLe.refl _ | (repeat' (first | exact MLe.nil | exact MLe.refl _ | refine MLe.cons _ ?_ | refine MLe.drop _ ?_)))
            simp_all
          · skip
            refine AOps.gt 34 rfl rfl rfl rfl rfl (op_fieldAddr_c rfl tf_124_4 rfl rfl ?_)
            refine AOps.gt 35 rfl rfl rfl rfl rfl (op_load_c1 rfl ta_58 rfl rfl ?_)
            refine AOps.gt 36 rfl rfl rfl rfl rfl (op_fieldAddr_c rfl tf_124_4 rfl rfl ?_)
            refine AOps.gt 37 rfl rfl rfl rfl rfl (op_load_c1 rfl ta_58 rfl rfl ?_)
            refine AOps.gt 38 rfl rfl rfl rfl rfl (op_callb (xs := [.tmp 35, .tmp 37, .func 90]) rfl rfl (H2) (by first | exact Les.refl _ | (repeat' (first | exact Les.refl _ | refine Les.cons ?_ ?_ | exact Le.refl _ | exact Le.own _ _ _ | exact Le.nil _ | refine Le.agg ?_))) ?_); intro c38 h38
            refine AOps.st 39 rfl rfl rfl (op_pick rfl rfl rfl ?_)
            refine AOps.st 4 rfl rfl rfl (op_assign rfl rfl ?_)
            refine AOps.nil ?_
            refine BoolQ.mk rfl ?_ (by repeat' (first | exact SLe.wo _ _ | exact SLe.refl _ | refine SLe.fresh rfl ?_)) (by first | exact MLe.none _ | exact MLe.refl _ | (repeat' (first | exact MLe.nil | exact MLe.refl _ | refine MLe.cons _ ?_ | refine MLe.drop _ ?_)))
            simp_all
  intro c4 h4
  refine go_code ?_
  refine c_ret ?_
  exact out_tmp rfl rfl (Le.refl _) (by first | exact MLe.none _ | exact MLe.refl _ | (repeat' (first | exact MLe.nil | exact MLe.refl _ | refine MLe.cons _ ?_ | refine MLe.drop _ ?_))) ⟨⟨_, h4.trans (by simp only [Cl.key, Cl.s, Cl.v, Cl.su, Cl.ms, Cl.ds, Prod.mk.injEq]), rfl⟩, rfl⟩
set_option maxHeartbeats 4000000 in
set_option maxRecDepth 100000 in
theorem sameInst_c (a b : In) : BCall Try.prog 104 [.agg a.cells, .agg b.cells] (a.key = b.key) := by
  obtain ⟨s1, ⟨k1, t1, n1, l1⟩, cx1, bs1, p1⟩ := a
  obtain ⟨s2, ⟨k2, t2, n2, l2⟩, cx2, bs2, p2⟩ := b
  have H := Eqs_Pr id 136 cx1 cx2 (fun x _ y => samePred_c x y)
  have H2 := Eqs_Bi Bi.bare 90 bs1 bs2 (fun x _ y => sameBind_c x y)
  refine ACall.enter Try.func104 rfl (by kernel_rfl) rfl (Nat.le_of_ble_eq_true rfl) ?_
  refine c_start ?_
  refine c_seq ?_
  refine c_region ?_
  refine AOps.st 2 rfl rfl rfl (op_boxc (cs' := [_, _, _, _, _, _, _, _]) rfl rfl rfl rfl ?_)
  refine AOps.st 3 rfl rfl rfl (op_boxc (cs' := [_, _, _, _, _, _, _, _]) rfl rfl rfl rfl ?_)
  refine AOps.st 4 rfl rfl rfl (op_assign rfl rfl ?_)
  refine AOps.nil ?_
  refine go_code ?_
  refine c_seq ?_
  refine c_bool 4 (s1 = s2 ∧ (⟨k1, t1, n1, l1⟩ : Ty) = ⟨k2, t2, n2, l2⟩ ∧ cx1 = cx2 ∧ bs1.map Bi.bare = bs2.map Bi.bare) ?_ _ _ rfl ?_
  · skip
    refine AOps.st 5 rfl rfl rfl (op_fieldAddr_c rfl tf_127_0 rfl rfl ?_)
    refine AOps.st 6 rfl rfl rfl (op_load_c1 rfl ta_9 rfl rfl ?_)
    refine AOps.st 7 rfl rfl rfl (op_fieldAddr_c rfl tf_127_0 rfl rfl ?_)
    refine AOps.st 8 rfl rfl rfl (op_load_c1 rfl ta_9 rfl rfl ?_)
    refine AOps.st 9 rfl rfl rfl (op_seql rfl rfl rfl ?_); intro c9 h9
    refine AOps.st 10 rfl rfl rfl (op_move rfl rfl ?_)
    rcases bool_split h9 with ⟨rfl, g9⟩ | ⟨rfl, g9⟩
    · skip
      refine AOps.gf 11 rfl rfl rfl rfl rfl ?_
      refine AOps.gf 12 rfl rfl rfl rfl rfl ?_
      refine AOps.gf 13 rfl rfl rfl rfl rfl ?_
      refine AOps.gf 14 rfl rfl rfl rfl rfl ?_
      refine AOps.gf 15 rfl rfl rfl rfl rfl ?_
      refine AOps.st 16 rfl rfl rfl (op_pick rfl rfl rfl ?_)
      refine AOps.st 17 rfl rfl rfl (op_move rfl rfl ?_)
      refine AOps.gf 18 rfl rfl rfl rfl rfl ?_
      refine AOps.gf 19 rfl rfl rfl rfl rfl ?_
      refine AOps.gf 20 rfl rfl rfl rfl rfl ?_
      refine AOps.gf 21 rfl rfl rfl rfl rfl ?_
      refine AOps.gf 22 rfl rfl rfl rfl rfl ?_
      refine AOps.st 23 rfl rfl rfl (op_pick rfl rfl rfl ?_)
      refine AOps.st 24 rfl rfl rfl (op_move rfl rfl ?_)
      refine AOps.gf 25 rfl rfl rfl rfl rfl ?_
      refine AOps.gf 26 rfl rfl rfl rfl rfl ?_
      refine AOps.gf 27 rfl rfl rfl rfl rfl ?_
      refine AOps.gf 28 rfl rfl rfl rfl rfl ?_
      refine AOps.gf 29 rfl rfl rfl rfl rfl ?_
      refine AOps.st 30 rfl rfl rfl (op_pick rfl rfl rfl ?_)
      refine AOps.st 4 rfl rfl rfl (op_assign rfl rfl ?_)
      refine AOps.nil ?_
      refine BoolQ.mk rfl ?_ (by repeat' (first | exact SLe.wo _ _ | exact SLe.refl _ | refine SLe.fresh rfl ?_)) (by first | exact MLe.none _ | exact MLe.refl _ | (repeat' (first | exact MLe.nil | exact MLe.refl _ | refine MLe.cons _ ?_ | refine MLe.drop _ ?_)))
      simp_all
    · skip
      refine AOps.gt 11 rfl rfl rfl rfl rfl (op_fieldAddr_c rfl tf_127_1 rfl rfl ?_)
      refine AOps.gt 12 rfl rfl rfl rfl rfl (op_load_c (cs' := [_, _, _, _]) rfl ta_24 rfl rfl rfl ?_)
      refine AOps.gt 13 rfl rfl rfl rfl rfl (op_fieldAddr_c rfl tf_127_1 rfl rfl ?_)
      refine AOps.gt 14 rfl rfl rfl rfl rfl (op_load_c (cs' := [_, _, _, _]) rfl ta_24 rfl rfl rfl ?_)
      refine AOps.gt 15 rfl rfl rfl rfl rfl (op_callb (xs := [.tmp 12, .tmp 14]) rfl rfl (tSameType_c ⟨k1, t1, n1, l1⟩ ⟨k2, t2, n2, l2⟩) (by first | exact Les.refl _ | (repeat' (first | exact Les.refl _ | refine Les.cons ?_ ?_ | exact Le.refl _ | exact Le.own _ _ _ | exact Le.nil _ | refine Le.agg ?_))) ?_); intro c15 h15
      refine AOps.st 16 rfl rfl rfl (op_pick rfl rfl rfl ?_)
      refine AOps.st 17 rfl rfl rfl (op_move rfl rfl ?_)
      rcases bool_split h15 with ⟨rfl, g15⟩ | ⟨rfl, g15⟩
      · skip
        refine AOps.gf 18 rfl rfl rfl rfl rfl ?_
        refine AOps.gf 19 rfl rfl rfl rfl rfl ?_
        refine AOps.gf 20 rfl rfl rfl rfl rfl ?_
        refine AOps.gf 21 rfl rfl rfl rfl rfl ?_
        refine AOps.gf 22 rfl rfl rfl rfl rfl ?_
        refine AOps.st 23 rfl rfl rfl (op_pick rfl rfl rfl ?_)
        refine AOps.st 24 rfl rfl rfl (op_move rfl rfl ?_)
        refine AOps.gf 25 rfl rfl rfl rfl rfl ?_
        refine AOps.gf 26 rfl rfl rfl rfl rfl ?_
        refine AOps.gf 27 rfl rfl rfl rfl rfl ?_
        refine AOps.gf 28 rfl rfl rfl rfl rfl ?_
        refine AOps.gf 29 rfl rfl rfl rfl rfl ?_
        refine AOps.st 30 rfl rfl rfl (op_pick rfl rfl rfl ?_)
        refine AOps.st 4 rfl rfl rfl (op_assign rfl rfl ?_)
        refine AOps.nil ?_
        refine BoolQ.mk rfl ?_ (by repeat' (first | exact SLe.wo _ _ | exact SLe.refl _ | refine SLe.fresh rfl ?_)) (by first | exact MLe.none _ | exact MLe.refl _ | (repeat' (first | exact MLe.nil | exact MLe.refl _ | refine MLe.cons _ ?_ | refine MLe.drop _ ?_)))
        simp_all
      · skip
        refine AOps.gt 18 rfl rfl rfl rfl rfl (op_fieldAddr_c rfl tf_127_2 rfl rfl ?_)
        refine AOps.gt 19 rfl rfl rfl rfl rfl (op_load_c1 rfl ta_125 rfl rfl ?_)
        refine AOps.gt 20 rfl rfl rfl rfl rfl (op_fieldAddr_c rfl tf_127_2 rfl rfl ?_)
        refine AOps.gt 21 rfl rfl rfl rfl rfl (op_load_c1 rfl ta_125 rfl rfl ?_)
        refine AOps.gt 22 rfl rfl rfl rfl rfl (op_callb (xs := [.tmp 19, .tmp 21, .func 136]) rfl rfl (H) (by first | exact Les.refl _ | (repeat' (first | exact Les.refl _ | refine Les.cons ?_ ?_ | exact Le.refl _ | exact Le.own _ _ _ | exact Le.nil _ | refine Le.agg ?_))) ?_); intro c22 h22
        refine AOps.st 23 rfl rfl rfl (op_pick rfl rfl rfl ?_)
        refine AOps.st 24 rfl rfl rfl (op_move rfl rfl ?_)
        rcases bool_split h22 with ⟨rfl, g22⟩ | ⟨rfl, g22⟩
        · skip
          refine AOps.gf 25 rfl rfl rfl rfl rfl ?_
          refine AOps.gf 26 rfl rfl rfl rfl rfl ?_
          refine AOps.gf 27 rfl rfl rfl rfl rfl ?_
          refine AOps.gf 28 rfl rfl rfl rfl rfl ?_
          refine AOps.gf 29 rfl rfl rfl rfl rfl ?_
          refine AOps.st 30 rfl rfl rfl (op_pick rfl rfl rfl ?_)
          refine AOps.st 4 rfl rfl rfl (op_assign rfl rfl ?_)
          refine AOps.nil ?_
          refine BoolQ.mk rfl ?_ (by repeat' (first | exact SLe.wo _ _ | exact SLe.refl _ | refine SLe.fresh rfl ?_)) (by first | exact MLe.none _ | exact MLe.refl _ | (repeat' (first | exact MLe.nil | exact MLe.refl _ | refine MLe.cons _ ?_ | refine MLe.drop _ ?_)))
          simp_all
        · skip
          refine AOps.gt 25 rfl rfl rfl rfl rfl (op_fieldAddr_c rfl tf_127_3 rfl rfl ?_)
          refine AOps.gt 26 rfl rfl rfl rfl rfl (op_load_c1 rfl ta_58 rfl rfl ?_)
          refine AOps.gt 27 rfl rfl rfl rfl rfl (op_fieldAddr_c rfl tf_127_3 rfl rfl ?_)
          refine AOps.gt 28 rfl rfl rfl rfl rfl (op_load_c1 rfl ta_58 rfl rfl ?_)
          refine AOps.gt 29 rfl rfl rfl rfl rfl (op_callb (xs := [.tmp 26, .tmp 28, .func 90]) rfl rfl (H2) (by first | exact Les.refl _ | (repeat' (first | exact Les.refl _ | refine Les.cons ?_ ?_ | exact Le.refl _ | exact Le.own _ _ _ | exact Le.nil _ | refine Le.agg ?_))) ?_); intro c29 h29
          refine AOps.st 30 rfl rfl rfl (op_pick rfl rfl rfl ?_)
          refine AOps.st 4 rfl rfl rfl (op_assign rfl rfl ?_)
          refine AOps.nil ?_
          refine BoolQ.mk rfl ?_ (by repeat' (first | exact SLe.wo _ _ | exact SLe.refl _ | refine SLe.fresh rfl ?_)) (by first | exact MLe.none _ | exact MLe.refl _ | (repeat' (first | exact MLe.nil | exact MLe.refl _ | refine MLe.cons _ ?_ | refine MLe.drop _ ?_)))
          simp_all
  intro c4 h4
  refine go_code ?_
  refine c_ret ?_
  exact out_tmp rfl rfl (Le.refl _) (by first | exact MLe.none _ | exact MLe.refl _ | (repeat' (first | exact MLe.nil | exact MLe.refl _ | refine MLe.cons _ ?_ | refine MLe.drop _ ?_))) ⟨⟨_, h4.trans (by simp only [In.key, In.c, In.hd, In.cx, In.bs, Prod.mk.injEq]), rfl⟩, rfl⟩
set_option maxHeartbeats 4000000 in
set_option maxRecDepth 100000 in
theorem SameProg_c (a b : Pg) : BCall Try.prog 58 [.agg a.cells, .agg b.cells] (a.key = b.key) := by
  obtain ⟨da1, cl1, in1, bs1⟩ := a
  obtain ⟨da2, cl2, in2, bs2⟩ := b
  have H1 := Eqs_Da Da.key 100 da1 da2 (fun x _ y => sameData_c x y)
  have H2 := Eqs_Cl Cl.key 102 cl1 cl2 (fun x _ y => sameClass_c x y)
  have H3 := Eqs_In In.key 104 in1 in2 (fun x _ y => sameInst_c x y)
  have H4 := Eqs_Bi Bi.bare 90 bs1 bs2 (fun x _ y => sameBind_c x y)
  refine ACall.enter Try.func58 rfl (by kernel_rfl) rfl (Nat.le_of_ble_eq_true rfl) ?_
  refine c_start ?_
  refine c_seq ?_
  refine c_region ?_
  refine AOps.st 2 rfl rfl rfl (op_boxc (cs' := [_, _, _, _]) rfl rfl rfl rfl ?_)
  refine AOps.st 3 rfl rfl rfl (op_boxc (cs' := [_, _, _, _]) rfl rfl rfl rfl ?_)
  refine AOps.st 4 rfl rfl rfl (op_assign rfl rfl ?_)
  refine AOps.nil ?_
  refine go_code ?_
  refine c_seq ?_
  refine c_bool 4 (da1.map Da.key = da2.map Da.key ∧ cl1.map Cl.key = cl2.map Cl.key ∧ in1.map In.key = in2.map In.key ∧ bs1.map Bi.bare = bs2.map Bi.bare) ?_ _ _ rfl ?_
  · skip
    refine AOps.st 5 rfl rfl rfl (op_fieldAddr_c rfl tf_81_0 rfl rfl ?_)
    refine AOps.st 6 rfl rfl rfl (op_load_c1 rfl ta_77 rfl rfl ?_)
    refine AOps.st 7 rfl rfl rfl (op_fieldAddr_c rfl tf_81_0 rfl rfl ?_)
    refine AOps.st 8 rfl rfl rfl (op_load_c1 rfl ta_77 rfl rfl ?_)
    refine AOps.st 9 rfl rfl rfl (op_callb (xs := [.tmp 6, .tmp 8, .func 100]) rfl rfl (H1) (by first | exact Les.refl _ | (repeat' (first | exact Les.refl _ | refine Les.cons ?_ ?_ | exact Le.refl _ | exact Le.own _ _ _ | exact Le.nil _ | refine Le.agg ?_))) ?_); intro c9 h9
    refine AOps.st 10 rfl rfl rfl (op_move rfl rfl ?_)
    rcases bool_split h9 with ⟨rfl, g9⟩ | ⟨rfl, g9⟩
    · skip
      refine AOps.gf 11 rfl rfl rfl rfl rfl ?_
      refine AOps.gf 12 rfl rfl rfl rfl rfl ?_
      refine AOps.gf 13 rfl rfl rfl rfl rfl ?_
      refine AOps.gf 14 rfl rfl rfl rfl rfl ?_
      refine AOps.gf 15 rfl rfl rfl rfl rfl ?_
      refine AOps.st 16 rfl rfl rfl (op_pick rfl rfl rfl ?_)
      refine AOps.st 17 rfl rfl rfl (op_move rfl rfl ?_)
      refine AOps.gf 18 rfl rfl rfl rfl rfl ?_
      refine AOps.gf 19 rfl rfl rfl rfl rfl ?_
      refine AOps.gf 20 rfl rfl rfl rfl rfl ?_
      refine AOps.gf 21 rfl rfl rfl rfl rfl ?_
      refine AOps.gf 22 rfl rfl rfl rfl rfl ?_
      refine AOps.st 23 rfl rfl rfl (op_pick rfl rfl rfl ?_)
      refine AOps.st 24 rfl rfl rfl (op_move rfl rfl ?_)
      refine AOps.gf 25 rfl rfl rfl rfl rfl ?_
      refine AOps.gf 26 rfl rfl rfl rfl rfl ?_
      refine AOps.gf 27 rfl rfl rfl rfl rfl ?_
      refine AOps.gf 28 rfl rfl rfl rfl rfl ?_
      refine AOps.gf 29 rfl rfl rfl rfl rfl ?_
      refine AOps.st 30 rfl rfl rfl (op_pick rfl rfl rfl ?_)
      refine AOps.st 4 rfl rfl rfl (op_assign rfl rfl ?_)
      refine AOps.nil ?_
      refine BoolQ.mk rfl ?_ (by repeat' (first | exact SLe.wo _ _ | exact SLe.refl _ | refine SLe.fresh rfl ?_)) (by first | exact MLe.none _ | exact MLe.refl _ | (repeat' (first | exact MLe.nil | exact MLe.refl _ | refine MLe.cons _ ?_ | refine MLe.drop _ ?_)))
      simp_all
    · skip
      refine AOps.gt 11 rfl rfl rfl rfl rfl (op_fieldAddr_c rfl tf_81_1 rfl rfl ?_)
      refine AOps.gt 12 rfl rfl rfl rfl rfl (op_load_c1 rfl ta_78 rfl rfl ?_)
      refine AOps.gt 13 rfl rfl rfl rfl rfl (op_fieldAddr_c rfl tf_81_1 rfl rfl ?_)
      refine AOps.gt 14 rfl rfl rfl rfl rfl (op_load_c1 rfl ta_78 rfl rfl ?_)
      refine AOps.gt 15 rfl rfl rfl rfl rfl (op_callb (xs := [.tmp 12, .tmp 14, .func 102]) rfl rfl (H2) (by first | exact Les.refl _ | (repeat' (first | exact Les.refl _ | refine Les.cons ?_ ?_ | exact Le.refl _ | exact Le.own _ _ _ | exact Le.nil _ | refine Le.agg ?_))) ?_); intro c15 h15
      refine AOps.st 16 rfl rfl rfl (op_pick rfl rfl rfl ?_)
      refine AOps.st 17 rfl rfl rfl (op_move rfl rfl ?_)
      rcases bool_split h15 with ⟨rfl, g15⟩ | ⟨rfl, g15⟩
      · skip
        refine AOps.gf 18 rfl rfl rfl rfl rfl ?_
        refine AOps.gf 19 rfl rfl rfl rfl rfl ?_
        refine AOps.gf 20 rfl rfl rfl rfl rfl ?_
        refine AOps.gf 21 rfl rfl rfl rfl rfl ?_
        refine AOps.gf 22 rfl rfl rfl rfl rfl ?_
        refine AOps.st 23 rfl rfl rfl (op_pick rfl rfl rfl ?_)
        refine AOps.st 24 rfl rfl rfl (op_move rfl rfl ?_)
        refine AOps.gf 25 rfl rfl rfl rfl rfl ?_
        refine AOps.gf 26 rfl rfl rfl rfl rfl ?_
        refine AOps.gf 27 rfl rfl rfl rfl rfl ?_
        refine AOps.gf 28 rfl rfl rfl rfl rfl ?_
        refine AOps.gf 29 rfl rfl rfl rfl rfl ?_
        refine AOps.st 30 rfl rfl rfl (op_pick rfl rfl rfl ?_)
        refine AOps.st 4 rfl rfl rfl (op_assign rfl rfl ?_)
        refine AOps.nil ?_
        refine BoolQ.mk rfl ?_ (by repeat' (first | exact SLe.wo _ _ | exact SLe.refl _ | refine SLe.fresh rfl ?_)) (by first | exact MLe.none _ | exact MLe.refl _ | (repeat' (first | exact MLe.nil | exact MLe.refl _ | refine MLe.cons _ ?_ | refine MLe.drop _ ?_)))
        simp_all
      · skip
        refine AOps.gt 18 rfl rfl rfl rfl rfl (op_fieldAddr_c rfl tf_81_2 rfl rfl ?_)
        refine AOps.gt 19 rfl rfl rfl rfl rfl (op_load_c1 rfl ta_79 rfl rfl ?_)
        refine AOps.gt 20 rfl rfl rfl rfl rfl (op_fieldAddr_c rfl tf_81_2 rfl rfl ?_)
        refine AOps.gt 21 rfl rfl rfl rfl rfl (op_load_c1 rfl ta_79 rfl rfl ?_)
        refine AOps.gt 22 rfl rfl rfl rfl rfl (op_callb (xs := [.tmp 19, .tmp 21, .func 104]) rfl rfl (H3) (by first | exact Les.refl _ | (repeat' (first | exact Les.refl _ | refine Les.cons ?_ ?_ | exact Le.refl _ | exact Le.own _ _ _ | exact Le.nil _ | refine Le.agg ?_))) ?_); intro c22 h22
        refine AOps.st 23 rfl rfl rfl (op_pick rfl rfl rfl ?_)
        refine AOps.st 24 rfl rfl rfl (op_move rfl rfl ?_)
        rcases bool_split h22 with ⟨rfl, g22⟩ | ⟨rfl, g22⟩
        · skip
          refine AOps.gf 25 rfl rfl rfl rfl rfl ?_
          refine AOps.gf 26 rfl rfl rfl rfl rfl ?_
          refine AOps.gf 27 rfl rfl rfl rfl rfl ?_
          refine AOps.gf 28 rfl rfl rfl rfl rfl ?_
          refine AOps.gf 29 rfl rfl rfl rfl rfl ?_
          refine AOps.st 30 rfl rfl rfl (op_pick rfl rfl rfl ?_)
          refine AOps.st 4 rfl rfl rfl (op_assign rfl rfl ?_)
          refine AOps.nil ?_
          refine BoolQ.mk rfl ?_ (by repeat' (first | exact SLe.wo _ _ | exact SLe.refl _ | refine SLe.fresh rfl ?_)) (by first | exact MLe.none _ | exact MLe.refl _ | (repeat' (first | exact MLe.nil | exact MLe.refl _ | refine MLe.cons _ ?_ | refine MLe.drop _ ?_)))
          simp_all
        · skip
          refine AOps.gt 25 rfl rfl rfl rfl rfl (op_fieldAddr_c rfl tf_81_3 rfl rfl ?_)
          refine AOps.gt 26 rfl rfl rfl rfl rfl (op_load_c1 rfl ta_58 rfl rfl ?_)
          refine AOps.gt 27 rfl rfl rfl rfl rfl (op_fieldAddr_c rfl tf_81_3 rfl rfl ?_)
          refine AOps.gt 28 rfl rfl rfl rfl rfl (op_load_c1 rfl ta_58 rfl rfl ?_)
          refine AOps.gt 29 rfl rfl rfl rfl rfl (op_callb (xs := [.tmp 26, .tmp 28, .func 90]) rfl rfl (H4) (by first | exact Les.refl _ | (repeat' (first | exact Les.refl _ | refine Les.cons ?_ ?_ | exact Le.refl _ | exact Le.own _ _ _ | exact Le.nil _ | refine Le.agg ?_))) ?_); intro c29 h29
          refine AOps.st 30 rfl rfl rfl (op_pick rfl rfl rfl ?_)
          refine AOps.st 4 rfl rfl rfl (op_assign rfl rfl ?_)
          refine AOps.nil ?_
          refine BoolQ.mk rfl ?_ (by repeat' (first | exact SLe.wo _ _ | exact SLe.refl _ | refine SLe.fresh rfl ?_)) (by first | exact MLe.none _ | exact MLe.refl _ | (repeat' (first | exact MLe.nil | exact MLe.refl _ | refine MLe.cons _ ?_ | refine MLe.drop _ ?_)))
          simp_all
  intro c4 h4
  refine go_code ?_
  refine c_ret ?_
  exact out_tmp rfl rfl (Le.refl _) (by first | exact MLe.none _ | exact MLe.refl _ | (repeat' (first | exact MLe.nil | exact MLe.refl _ | refine MLe.cons _ ?_ | refine MLe.drop _ ?_))) ⟨⟨_, h4.trans (by simp only [Pg.key, Pg.da, Pg.cl, Pg.ins, Pg.bs, Prod.mk.injEq]), rfl⟩, rfl⟩
end Go.Proofs.Ytjgjnheeohfmmaa
