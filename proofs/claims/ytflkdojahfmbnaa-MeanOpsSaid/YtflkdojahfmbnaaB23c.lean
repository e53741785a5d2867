/- The machine's prim: a text is put. -/
import Derived.Test.YtflkdojahfmbnaaB23b
namespace Go.Proofs.Ytflkdojahfmbnaa
open Go.RowKit
def kUnit : ByteArray := ⟨#[85, 110, 105, 116]⟩
set_option maxHeartbeats 4000000 in
set_option maxRecDepth 100000 in
theorem prim_c (b : Nat) (o i : AV) (fuel steps nest : Int) (s : ByteArray) : MCall Try.prog 41 [.ptr b 0, .val (.int .i64 13), .seq 6 [vlC 1 s]] (.loc b (mcC o i (.val (.slice none 0 0)) fuel steps nest)) (.agg (vlC 2 kUnit)) (.loc b (mcC o i (.seq 1 [[.val (.string s)]]) fuel steps nest)) := by
  have HO := of_c s
  have HK := constant_c kUnit
  unfold vlC mcC at *
  refine ACall.enter Try.func41 rfl (by kernel_rfl) rfl (Nat.le_of_ble_eq_true rfl) ?_
  refine c_start ?_
  refine c_seq ?_
  refine c_region ?_
  refine AOps.st 6 rfl rfl rfl (op_alloce (cs' := [_, _, _, _, _, _]) rfl tz_69 rfl rfl ?_); intro b6
  refine AOps.nil ?_
  refine go_code ?_
  refine c_seq ?_
  refine c_block ?_
  refine c_seq ?_
  refine c_bool 10 (False) ?_ _ _ rfl ?_
  · skip
    refine AOps.st 11 rfl rfl rfl (op_move rfl rfl ?_)
    refine AOps.st 12 rfl rfl rfl (op_geq rfl rfl rfl ?_); intro c12 h12
    refine AOps.st 13 rfl rfl rfl (op_move rfl rfl ?_)
    rcases bool_split h12 with ⟨rfl, g12⟩ | ⟨rfl, g12⟩
    · skip
      refine AOps.gf 14 rfl rfl rfl rfl rfl ?_
      refine AOps.gf 15 rfl rfl rfl rfl rfl ?_
      refine AOps.st 16 rfl rfl rfl (op_pick rfl rfl rfl ?_)
      refine AOps.st 17 rfl rfl rfl (op_move rfl rfl ?_)
      refine AOps.gf 18 rfl rfl rfl rfl rfl ?_
      refine AOps.gf 19 rfl rfl rfl rfl rfl ?_
      refine AOps.gf 20 rfl rfl rfl rfl rfl ?_
      refine AOps.st 21 rfl rfl rfl (op_pick rfl rfl rfl ?_)
      refine AOps.st 10 rfl rfl rfl (op_assign rfl rfl ?_)
      refine AOps.nil ?_
      refine BoolQ.mk rfl ?_ (by repeat' (first | exact SLe.wo _ _ | exact SLe.refl _ | refine SLe.fresh rfl ?_)) (by first | exact MLe.none _ | exact MLe.refl _ | (repeat' (first | exact MLe.nil | exact MLe.refl _ | refine MLe.cons _ ?_ | refine MLe.drop _ ?_)))
      clear HO HK; simp_all
    · skip
      refine AOps.gt 14 rfl rfl rfl rfl rfl (op_move rfl rfl ?_)
      refine AOps.gt 15 rfl rfl rfl rfl rfl (op_leq rfl rfl rfl ?_); intro c15 h15
      refine AOps.st 16 rfl rfl rfl (op_pick rfl rfl rfl ?_)
      refine AOps.st 17 rfl rfl rfl (op_move rfl rfl ?_)
      rcases bool_split h15 with ⟨rfl, g15⟩ | ⟨rfl, g15⟩
      · skip
        refine AOps.gf 18 rfl rfl rfl rfl rfl ?_
        refine AOps.gf 19 rfl rfl rfl rfl rfl ?_
        refine AOps.gf 20 rfl rfl rfl rfl rfl ?_
        refine AOps.st 21 rfl rfl rfl (op_pick rfl rfl rfl ?_)
        refine AOps.st 10 rfl rfl rfl (op_assign rfl rfl ?_)
        refine AOps.nil ?_
        refine BoolQ.mk rfl ?_ (by repeat' (first | exact SLe.wo _ _ | exact SLe.refl _ | refine SLe.fresh rfl ?_)) (by first | exact MLe.none _ | exact MLe.refl _ | (repeat' (first | exact MLe.nil | exact MLe.refl _ | refine MLe.cons _ ?_ | refine MLe.drop _ ?_)))
        clear HO HK; simp_all
      · exact absurd g15 (by decide)
  intro c10 h10
  refine go_code ?_
  rcases bool_split h10 with ⟨rfl, g10⟩ | ⟨rfl, g10⟩
  · refine c_cond_f rfl ?_
    refine c_seq ?_
    refine c_bool 46 (False) ?_ _ _ rfl ?_
    · skip
      refine AOps.st 47 rfl rfl rfl (op_move rfl rfl ?_)
      refine AOps.st 48 rfl rfl rfl (op_eql rfl rfl rfl ?_); intro c48 h48
      refine AOps.st 49 rfl rfl rfl (op_move rfl rfl ?_)
      rcases bool_split h48 with ⟨rfl, g48⟩ | ⟨rfl, g48⟩
      · skip
        refine AOps.gf 50 rfl rfl rfl rfl rfl ?_
        refine AOps.gf 51 rfl rfl rfl rfl rfl ?_
        refine AOps.gf 52 rfl rfl rfl rfl rfl ?_
        refine AOps.st 53 rfl rfl rfl (op_pick rfl rfl rfl ?_)
        refine AOps.st 46 rfl rfl rfl (op_assign rfl rfl ?_)
        refine AOps.nil ?_
        refine BoolQ.mk rfl ?_ (by repeat' (first | exact SLe.wo _ _ | exact SLe.refl _ | refine SLe.fresh rfl ?_)) (by first | exact MLe.none _ | exact MLe.refl _ | (repeat' (first | exact MLe.nil | exact MLe.refl _ | refine MLe.cons _ ?_ | refine MLe.drop _ ?_)))
        clear HO HK; simp_all
      · exact absurd g48 (by decide)
    intro c46 h46
    refine go_code ?_
    rcases bool_split h46 with ⟨rfl, g46⟩ | ⟨rfl, g46⟩
    · refine c_cond_f rfl ?_
      refine c_seq ?_
      refine c_bool 64 (False) ?_ _ _ rfl ?_
      · skip
        refine AOps.st 65 rfl rfl rfl (op_move rfl rfl ?_)
        refine AOps.st 66 rfl rfl rfl (op_eql rfl rfl rfl ?_); intro c66 h66
        refine AOps.st 67 rfl rfl rfl (op_move rfl rfl ?_)
        rcases bool_split h66 with ⟨rfl, g66⟩ | ⟨rfl, g66⟩
        · skip
          refine AOps.gf 68 rfl rfl rfl rfl rfl ?_
          refine AOps.gf 69 rfl rfl rfl rfl rfl ?_
          refine AOps.gf 70 rfl rfl rfl rfl rfl ?_
          refine AOps.st 71 rfl rfl rfl (op_pick rfl rfl rfl ?_)
          refine AOps.st 64 rfl rfl rfl (op_assign rfl rfl ?_)
          refine AOps.nil ?_
          refine BoolQ.mk rfl ?_ (by repeat' (first | exact SLe.wo _ _ | exact SLe.refl _ | refine SLe.fresh rfl ?_)) (by first | exact MLe.none _ | exact MLe.refl _ | (repeat' (first | exact MLe.nil | exact MLe.refl _ | refine MLe.cons _ ?_ | refine MLe.drop _ ?_)))
          clear HO HK; simp_all
        · exact absurd g66 (by decide)
      intro c64 h64
      refine go_code ?_
      rcases bool_split h64 with ⟨rfl, g64⟩ | ⟨rfl, g64⟩
      · refine c_cond_f rfl ?_
        refine c_seq ?_
        refine c_bool 82 (False) ?_ _ _ rfl ?_
        · skip
          refine AOps.st 83 rfl rfl rfl (op_move rfl rfl ?_)
          refine AOps.st 84 rfl rfl rfl (op_eql rfl rfl rfl ?_); intro c84 h84
          refine AOps.st 85 rfl rfl rfl (op_move rfl rfl ?_)
          rcases bool_split h84 with ⟨rfl, g84⟩ | ⟨rfl, g84⟩
          · skip
            refine AOps.gf 86 rfl rfl rfl rfl rfl ?_
            refine AOps.gf 87 rfl rfl rfl rfl rfl ?_
            refine AOps.gf 88 rfl rfl rfl rfl rfl ?_
            refine AOps.st 89 rfl rfl rfl (op_pick rfl rfl rfl ?_)
            refine AOps.st 82 rfl rfl rfl (op_assign rfl rfl ?_)
            refine AOps.nil ?_
            refine BoolQ.mk rfl ?_ (by repeat' (first | exact SLe.wo _ _ | exact SLe.refl _ | refine SLe.fresh rfl ?_)) (by first | exact MLe.none _ | exact MLe.refl _ | (repeat' (first | exact MLe.nil | exact MLe.refl _ | refine MLe.cons _ ?_ | refine MLe.drop _ ?_)))
            clear HO HK; simp_all
          · exact absurd g84 (by decide)
        intro c82 h82
        refine go_code ?_
        rcases bool_split h82 with ⟨rfl, g82⟩ | ⟨rfl, g82⟩
        · refine c_cond_f rfl ?_
          refine c_seq ?_
          refine c_bool 100 (False) ?_ _ _ rfl ?_
          · skip
            refine AOps.st 101 rfl rfl rfl (op_move rfl rfl ?_)
            refine AOps.st 102 rfl rfl rfl (op_eql rfl rfl rfl ?_); intro c102 h102
            refine AOps.st 103 rfl rfl rfl (op_move rfl rfl ?_)
            rcases bool_split h102 with ⟨rfl, g102⟩ | ⟨rfl, g102⟩
            · skip
              refine AOps.gf 104 rfl rfl rfl rfl rfl ?_
              refine AOps.gf 105 rfl rfl rfl rfl rfl ?_
              refine AOps.gf 106 rfl rfl rfl rfl rfl ?_
              refine AOps.st 107 rfl rfl rfl (op_pick rfl rfl rfl ?_)
              refine AOps.st 100 rfl rfl rfl (op_assign rfl rfl ?_)
              refine AOps.nil ?_
              refine BoolQ.mk rfl ?_ (by repeat' (first | exact SLe.wo _ _ | exact SLe.refl _ | refine SLe.fresh rfl ?_)) (by first | exact MLe.none _ | exact MLe.refl _ | (repeat' (first | exact MLe.nil | exact MLe.refl _ | refine MLe.cons _ ?_ | refine MLe.drop _ ?_)))
              clear HO HK; simp_all
            · exact absurd g102 (by decide)
          intro c100 h100
          refine go_code ?_
          rcases bool_split h100 with ⟨rfl, g100⟩ | ⟨rfl, g100⟩
          · refine c_cond_f rfl ?_
            refine c_seq ?_
            refine c_bool 114 (False) ?_ _ _ rfl ?_
            · skip
              refine AOps.st 115 rfl rfl rfl (op_move rfl rfl ?_)
              refine AOps.st 116 rfl rfl rfl (op_eql rfl rfl rfl ?_); intro c116 h116
              refine AOps.st 117 rfl rfl rfl (op_move rfl rfl ?_)
              rcases bool_split h116 with ⟨rfl, g116⟩ | ⟨rfl, g116⟩
              · skip
                refine AOps.gf 118 rfl rfl rfl rfl rfl ?_
                refine AOps.gf 119 rfl rfl rfl rfl rfl ?_
                refine AOps.gf 120 rfl rfl rfl rfl rfl ?_
                refine AOps.st 121 rfl rfl rfl (op_pick rfl rfl rfl ?_)
                refine AOps.st 114 rfl rfl rfl (op_assign rfl rfl ?_)
                refine AOps.nil ?_
                refine BoolQ.mk rfl ?_ (by repeat' (first | exact SLe.wo _ _ | exact SLe.refl _ | refine SLe.fresh rfl ?_)) (by first | exact MLe.none _ | exact MLe.refl _ | (repeat' (first | exact MLe.nil | exact MLe.refl _ | refine MLe.cons _ ?_ | refine MLe.drop _ ?_)))
                clear HO HK; simp_all
              · exact absurd g116 (by decide)
            intro c114 h114
            refine go_code ?_
            rcases bool_split h114 with ⟨rfl, g114⟩ | ⟨rfl, g114⟩
            · refine c_cond_f rfl ?_
              refine c_seq ?_
              refine c_bool 128 (True) ?_ _ _ rfl ?_
              · skip
                refine AOps.st 129 rfl rfl rfl (op_move rfl rfl ?_)
                refine AOps.st 130 rfl rfl rfl (op_eql rfl rfl rfl ?_); intro c130 h130
                refine AOps.st 131 rfl rfl rfl (op_move rfl rfl ?_)
                rcases bool_split h130 with ⟨rfl, g130⟩ | ⟨rfl, g130⟩
                · exact absurd rfl g130
                · skip
                  refine AOps.gt 132 rfl rfl rfl rfl rfl (op_move rfl rfl ?_)
                  refine AOps.gt 133 rfl rfl rfl rfl rfl (op_buildSlice (xs := [.const (.int .i64 1)]) el_107 rfl rfl rfl rfl rfl rfl (Nat.le_of_ble_eq_true rfl) ?_)
                  refine AOps.gt 134 rfl rfl rfl rfl rfl (op_callp (xs := [.tmp 132, .tmp 133]) rfl rfl (HO) (by first | exact Les.refl _ | (repeat' (first | exact Les.refl _ | refine Les.cons ?_ ?_ | exact Le.refl _ | exact Le.own _ _ _ | exact Le.nil _ | refine Le.agg ?_))) ?_)
                  refine AOps.st 135 rfl rfl rfl (op_pick rfl rfl rfl ?_)
                  refine AOps.st 128 rfl rfl rfl (op_assign rfl rfl ?_)
                  refine AOps.nil ?_
                  refine BoolQ.mk rfl ?_ (by repeat' (first | exact SLe.wo _ _ | exact SLe.refl _ | refine SLe.fresh rfl ?_)) (by first | exact MLe.none _ | exact MLe.refl _ | (repeat' (first | exact MLe.nil | exact MLe.refl _ | refine MLe.cons _ ?_ | refine MLe.drop _ ?_)))
                  clear HO HK; simp_all
              intro c128 h128
              refine go_code ?_
              rcases bool_split h128 with ⟨rfl, g128⟩ | ⟨rfl, g128⟩
              · exact absurd trivial g128
              · refine c_cond_t rfl ?_
                refine c_seq ?_
                refine c_drawnE [0, 1, 2, 3, 4, 5, 6, 7, 8, 9, 10, 11, 12, 13] [10, 13] [[], [], [1], [1, 2], [1, 2, 3], [], [5], [5, 6], [5, 6, 7], [5, 6, 7, 8], [1, 2, 3, 4, 5, 6, 7, 8, 9], [0, 1, 2, 3, 4, 5, 6, 7, 8, 9, 10], [0, 1, 2, 3, 4, 5, 6, 7, 8, 9, 10, 11], [0, 1, 2, 3, 4, 5, 6, 7, 8, 9, 10, 11, 12]] tmix rfl ?_
                refine EOps.d 136 (none) (i := 0) rfl rfl rfl rfl rfl (op_move rfl rfl ⟨rfl, rfl⟩) ?_
                refine EOps.d 137 (none) (i := 1) rfl rfl rfl rfl rfl (op_move rfl rfl ⟨rfl, rfl⟩) ?_
                first | (refine EOps.d 138 (none) (i := 2) rfl rfl rfl rfl rfl (op_nilCheck_m rfl rfl ⟨rfl, rfl⟩) ?_) | (refine EOps.d 138 (none) (i := 2) rfl rfl rfl rfl rfl (op_nilCheck_c rfl rfl ⟨rfl, rfl⟩) ?_) | (refine EOps.d 138 (none) (i := 2) rfl rfl rfl rfl rfl (op_nilCheck_f rfl rfl ⟨rfl, rfl⟩) ?_)
                first | (refine EOps.d 139 (none) (i := 3) rfl rfl rfl rfl rfl (op_fieldAddr_m rfl tf_57_2 rfl ⟨rfl, rfl⟩) ?_) | (refine EOps.d 139 (none) (i := 3) rfl rfl rfl rfl rfl (op_fieldAddr_c rfl tf_57_2 rfl rfl ⟨rfl, rfl⟩) ?_)
                first | (refine EOps.d 140 (some 0) (i := 4) rfl rfl rfl rfl rfl (op_load_m1 (i := 0) rfl ta_37 rfl rfl rfl ⟨rfl, rfl⟩) ?_) | (refine EOps.d 140 (some 1) (i := 4) rfl rfl rfl rfl rfl (op_load_m1 (i := 0) rfl ta_37 rfl rfl rfl ⟨rfl, rfl⟩) ?_) | (refine EOps.d 140 (some 2) (i := 4) rfl rfl rfl rfl rfl (op_load_m1 (i := 0) rfl ta_37 rfl rfl rfl ⟨rfl, rfl⟩) ?_) | (refine EOps.d 140 (some 3) (i := 4) rfl rfl rfl rfl rfl (op_load_m1 (i := 0) rfl ta_37 rfl rfl rfl ⟨rfl, rfl⟩) ?_) | (refine EOps.d 140 (some 4) (i := 4) rfl rfl rfl rfl rfl (op_load_m1 (i := 0) rfl ta_37 rfl rfl rfl ⟨rfl, rfl⟩) ?_) | (refine EOps.d 140 (some 5) (i := 4) rfl rfl rfl rfl rfl (op_load_m1 (i := 0) rfl ta_37 rfl rfl rfl ⟨rfl, rfl⟩) ?_) | (refine EOps.d 140 (some 6) (i := 4) rfl rfl rfl rfl rfl (op_load_m1 (i := 0) rfl ta_37 rfl rfl rfl ⟨rfl, rfl⟩) ?_) | (refine EOps.d 140 (some 7) (i := 4) rfl rfl rfl rfl rfl (op_load_m1 (i := 0) rfl ta_37 rfl rfl rfl ⟨rfl, rfl⟩) ?_) | (refine EOps.d 140 (some 8) (i := 4) rfl rfl rfl rfl rfl (op_load_m1 (i := 0) rfl ta_37 rfl rfl rfl ⟨rfl, rfl⟩) ?_) | (refine EOps.d 140 (some 9) (i := 4) rfl rfl rfl rfl rfl (op_load_m1 (i := 0) rfl ta_37 rfl rfl rfl ⟨rfl, rfl⟩) ?_) | (refine EOps.d 140 (none) (i := 4) rfl rfl rfl rfl rfl (op_load_c1 rfl ta_37 rfl rfl ⟨rfl, rfl⟩) ?_)
                refine EOps.d 141 (none) (i := 5) rfl rfl rfl rfl rfl (op_move rfl rfl ⟨rfl, rfl⟩) ?_
                first | (refine EOps.d 142 (none) (i := 6) rfl rfl rfl rfl rfl (op_index rfl te_65 rfl (.seq _ _) rfl rfl (by assumption) ⟨rfl, rfl⟩) ?_) | (refine EOps.d 142 (none) (i := 6) rfl rfl rfl rfl rfl (op_index (i := 0) rfl te_65 rfl (.seq _ _) rfl rfl (by first | rfl | assumption) ⟨rfl, rfl⟩) ?_) | (refine EOps.d 142 (none) (i := 6) rfl rfl rfl rfl rfl (op_index (i := 1) rfl te_65 rfl (.seq _ _) rfl rfl (by first | rfl | assumption) ⟨rfl, rfl⟩) ?_) | (refine EOps.d 142 (none) (i := 6) rfl rfl rfl rfl rfl (op_index rfl te_65 rfl (.own _ _ _) rfl rfl (by assumption) ⟨rfl, rfl⟩) ?_) | (refine EOps.d 142 (none) (i := 6) rfl rfl rfl rfl rfl (op_index (i := 0) rfl te_65 rfl (.own _ _ _) rfl rfl (by first | rfl | assumption) ⟨rfl, rfl⟩) ?_) | (refine EOps.d 142 (none) (i := 6) rfl rfl rfl rfl rfl (op_index (i := 1) rfl te_65 rfl (.own _ _ _) rfl rfl (by first | rfl | assumption) ⟨rfl, rfl⟩) ?_) | (refine EOps.d 142 (none) (i := 6) rfl rfl rfl rfl rfl (op_index_arr rfl te_65 rfl rfl rfl (by omega) ⟨rfl, rfl⟩) ?_)
                first | (refine EOps.d 143 (none) (i := 7) rfl rfl rfl rfl rfl (op_fieldAddr_m rfl tf_69_2 rfl ⟨rfl, rfl⟩) ?_) | (refine EOps.d 143 (none) (i := 7) rfl rfl rfl rfl rfl (op_fieldAddr_c rfl tf_69_2 rfl rfl ⟨rfl, rfl⟩) ?_)
                first | (refine EOps.d 144 (some 0) (i := 8) rfl rfl rfl rfl rfl (op_load_m1 (i := 0) rfl ta_9 rfl rfl rfl ⟨rfl, rfl⟩) ?_) | (refine EOps.d 144 (some 1) (i := 8) rfl rfl rfl rfl rfl (op_load_m1 (i := 0) rfl ta_9 rfl rfl rfl ⟨rfl, rfl⟩) ?_) | (refine EOps.d 144 (some 2) (i := 8) rfl rfl rfl rfl rfl (op_load_m1 (i := 0) rfl ta_9 rfl rfl rfl ⟨rfl, rfl⟩) ?_) | (refine EOps.d 144 (some 3) (i := 8) rfl rfl rfl rfl rfl (op_load_m1 (i := 0) rfl ta_9 rfl rfl rfl ⟨rfl, rfl⟩) ?_) | (refine EOps.d 144 (some 4) (i := 8) rfl rfl rfl rfl rfl (op_load_m1 (i := 0) rfl ta_9 rfl rfl rfl ⟨rfl, rfl⟩) ?_) | (refine EOps.d 144 (some 5) (i := 8) rfl rfl rfl rfl rfl (op_load_m1 (i := 0) rfl ta_9 rfl rfl rfl ⟨rfl, rfl⟩) ?_) | (refine EOps.d 144 (some 6) (i := 8) rfl rfl rfl rfl rfl (op_load_m1 (i := 0) rfl ta_9 rfl rfl rfl ⟨rfl, rfl⟩) ?_) | (refine EOps.d 144 (some 7) (i := 8) rfl rfl rfl rfl rfl (op_load_m1 (i := 0) rfl ta_9 rfl rfl rfl ⟨rfl, rfl⟩) ?_) | (refine EOps.d 144 (some 8) (i := 8) rfl rfl rfl rfl rfl (op_load_m1 (i := 0) rfl ta_9 rfl rfl rfl ⟨rfl, rfl⟩) ?_) | (refine EOps.d 144 (some 9) (i := 8) rfl rfl rfl rfl rfl (op_load_m1 (i := 0) rfl ta_9 rfl rfl rfl ⟨rfl, rfl⟩) ?_) | (refine EOps.d 144 (none) (i := 8) rfl rfl rfl rfl rfl (op_load_c1 rfl ta_9 rfl rfl ⟨rfl, rfl⟩) ?_)
                refine EOps.d 145 (none) (i := 9) rfl rfl rfl rfl rfl (op_buildSlice (xs := [.tmp 144]) el_37 rfl rfl rfl rfl rfl rfl (Nat.le_of_ble_eq_true rfl) ⟨rfl, rfl⟩) ?_
                first | (refine EOps.w 0 (i := 10) rfl rfl rfl rfl rfl (op_append (i := 0) el_37 rfl rfl rfl rfl (.seq _ _) (by first | (simp; done) | (simp; omega) | omega) (fun u146 => ⟨_, rfl, ?_⟩))) | (refine EOps.w 1 (i := 10) rfl rfl rfl rfl rfl (op_append (i := 0) el_37 rfl rfl rfl rfl (.seq _ _) (by first | (simp; done) | (simp; omega) | omega) (fun u146 => ⟨_, rfl, ?_⟩))) | (refine EOps.w 2 (i := 10) rfl rfl rfl rfl rfl (op_append (i := 0) el_37 rfl rfl rfl rfl (.seq _ _) (by first | (simp; done) | (simp; omega) | omega) (fun u146 => ⟨_, rfl, ?_⟩))) | (refine EOps.w 3 (i := 10) rfl rfl rfl rfl rfl (op_append (i := 0) el_37 rfl rfl rfl rfl (.seq _ _) (by first | (simp; done) | (simp; omega) | omega) (fun u146 => ⟨_, rfl, ?_⟩))) | (refine EOps.w 4 (i := 10) rfl rfl rfl rfl rfl (op_append (i := 0) el_37 rfl rfl rfl rfl (.seq _ _) (by first | (simp; done) | (simp; omega) | omega) (fun u146 => ⟨_, rfl, ?_⟩))) | (refine EOps.w 5 (i := 10) rfl rfl rfl rfl rfl (op_append (i := 0) el_37 rfl rfl rfl rfl (.seq _ _) (by first | (simp; done) | (simp; omega) | omega) (fun u146 => ⟨_, rfl, ?_⟩))) | (refine EOps.w 6 (i := 10) rfl rfl rfl rfl rfl (op_append (i := 0) el_37 rfl rfl rfl rfl (.seq _ _) (by first | (simp; done) | (simp; omega) | omega) (fun u146 => ⟨_, rfl, ?_⟩))) | (refine EOps.w 7 (i := 10) rfl rfl rfl rfl rfl (op_append (i := 0) el_37 rfl rfl rfl rfl (.seq _ _) (by first | (simp; done) | (simp; omega) | omega) (fun u146 => ⟨_, rfl, ?_⟩))) | (refine EOps.w 8 (i := 10) rfl rfl rfl rfl rfl (op_append (i := 0) el_37 rfl rfl rfl rfl (.seq _ _) (by first | (simp; done) | (simp; omega) | omega) (fun u146 => ⟨_, rfl, ?_⟩))) | (refine EOps.w 9 (i := 10) rfl rfl rfl rfl rfl (op_append (i := 0) el_37 rfl rfl rfl rfl (.seq _ _) (by first | (simp; done) | (simp; omega) | omega) (fun u146 => ⟨_, rfl, ?_⟩))) | (refine EOps.w 0 (i := 10) rfl rfl rfl rfl rfl (op_append (i := 0) el_37 rfl rfl rfl rfl (.own _ _ _) (by first | (simp; done) | (simp; omega) | omega) (fun u146 => ⟨_, rfl, ?_⟩))) | (refine EOps.w 1 (i := 10) rfl rfl rfl rfl rfl (op_append (i := 0) el_37 rfl rfl rfl rfl (.own _ _ _) (by first | (simp; done) | (simp; omega) | omega) (fun u146 => ⟨_, rfl, ?_⟩))) | (refine EOps.w 2 (i := 10) rfl rfl rfl rfl rfl (op_append (i := 0) el_37 rfl rfl rfl rfl (.own _ _ _) (by first | (simp; done) | (simp; omega) | omega) (fun u146 => ⟨_, rfl, ?_⟩))) | (refine EOps.w 3 (i := 10) rfl rfl rfl rfl rfl (op_append (i := 0) el_37 rfl rfl rfl rfl (.own _ _ _) (by first | (simp; done) | (simp; omega) | omega) (fun u146 => ⟨_, rfl, ?_⟩))) | (refine EOps.w 4 (i := 10) rfl rfl rfl rfl rfl (op_append (i := 0) el_37 rfl rfl rfl rfl (.own _ _ _) (by first | (simp; done) | (simp; omega) | omega) (fun u146 => ⟨_, rfl, ?_⟩))) | (refine EOps.w 5 (i := 10) rfl rfl rfl rfl rfl (op_append (i := 0) el_37 rfl rfl rfl rfl (.own _ _ _) (by first | (simp; done) | (simp; omega) | omega) (fun u146 => ⟨_, rfl, ?_⟩))) | (refine EOps.w 6 (i := 10) rfl rfl rfl rfl rfl (op_append (i := 0) el_37 rfl rfl rfl rfl (.own _ _ _) (by first | (simp; done) | (simp; omega) | omega) (fun u146 => ⟨_, rfl, ?_⟩))) | (refine EOps.w 7 (i := 10) rfl rfl rfl rfl rfl (op_append (i := 0) el_37 rfl rfl rfl rfl (.own _ _ _) (by first | (simp; done) | (simp; omega) | omega) (fun u146 => ⟨_, rfl, ?_⟩))) | (refine EOps.w 8 (i := 10) rfl rfl rfl rfl rfl (op_append (i := 0) el_37 rfl rfl rfl rfl (.own _ _ _) (by first | (simp; done) | (simp; omega) | omega) (fun u146 => ⟨_, rfl, ?_⟩))) | (refine EOps.w 9 (i := 10) rfl rfl rfl rfl rfl (op_append (i := 0) el_37 rfl rfl rfl rfl (.own _ _ _) (by first | (simp; done) | (simp; omega) | omega) (fun u146 => ⟨_, rfl, ?_⟩))) | (refine EOps.w 0 (i := 10) rfl rfl rfl rfl rfl (op_append (i := 0) el_37 rfl rfl rfl rfl (.nil _) (by first | (simp; done) | (simp; omega) | omega) (fun u146 => ⟨_, rfl, ?_⟩))) | (refine EOps.w 1 (i := 10) rfl rfl rfl rfl rfl (op_append (i := 0) el_37 rfl rfl rfl rfl (.nil _) (by first | (simp; done) | (simp; omega) | omega) (fun u146 => ⟨_, rfl, ?_⟩))) | (refine EOps.w 2 (i := 10) rfl rfl rfl rfl rfl (op_append (i := 0) el_37 rfl rfl rfl rfl (.nil _) (by first | (simp; done) | (simp; omega) | omega) (fun u146 => ⟨_, rfl, ?_⟩))) | (refine EOps.w 3 (i := 10) rfl rfl rfl rfl rfl (op_append (i := 0) el_37 rfl rfl rfl rfl (.nil _) (by first | (simp; done) | (simp; omega) | omega) (fun u146 => ⟨_, rfl, ?_⟩))) | (refine EOps.w 4 (i := 10) rfl rfl rfl rfl rfl (op_append (i := 0) el_37 rfl rfl rfl rfl (.nil _) (by first | (simp; done) | (simp; omega) | omega) (fun u146 => ⟨_, rfl, ?_⟩))) | (refine EOps.w 5 (i := 10) rfl rfl rfl rfl rfl (op_append (i := 0) el_37 rfl rfl rfl rfl (.nil _) (by first | (simp; done) | (simp; omega) | omega) (fun u146 => ⟨_, rfl, ?_⟩))) | (refine EOps.w 6 (i := 10) rfl rfl rfl rfl rfl (op_append (i := 0) el_37 rfl rfl rfl rfl (.nil _) (by first | (simp; done) | (simp; omega) | omega) (fun u146 => ⟨_, rfl, ?_⟩))) | (refine EOps.w 7 (i := 10) rfl rfl rfl rfl rfl (op_append (i := 0) el_37 rfl rfl rfl rfl (.nil _) (by first | (simp; done) | (simp; omega) | omega) (fun u146 => ⟨_, rfl, ?_⟩))) | (refine EOps.w 8 (i := 10) rfl rfl rfl rfl rfl (op_append (i := 0) el_37 rfl rfl rfl rfl (.nil _) (by first | (simp; done) | (simp; omega) | omega) (fun u146 => ⟨_, rfl, ?_⟩))) | (refine EOps.w 9 (i := 10) rfl rfl rfl rfl rfl (op_append (i := 0) el_37 rfl rfl rfl rfl (.nil _) (by first | (simp; done) | (simp; omega) | omega) (fun u146 => ⟨_, rfl, ?_⟩))) | (refine EOps.nw (i := 10) rfl rfl rfl (op_append_nil el_37 rfl rfl rfl (.seq _ _) (by first | (simp; done) | (simp; omega) | omega) (fun u146 => ⟨_, rfl, ?_⟩))) | (refine EOps.nw (i := 10) rfl rfl rfl (op_append_nil el_37 rfl rfl rfl (.own _ _ _) (by first | (simp; done) | (simp; omega) | omega) (fun u146 => ⟨_, rfl, ?_⟩))) | (refine EOps.nw (i := 10) rfl rfl rfl (op_append_nil el_37 rfl rfl rfl (.nil _) (by first | (simp; done) | (simp; omega) | omega) (fun u146 => ⟨_, rfl, ?_⟩)))
                first | (refine EOps.d 147 (none) (i := 11) rfl rfl rfl rfl rfl (op_nilCheck_m rfl rfl ⟨rfl, rfl⟩) ?_) | (refine EOps.d 147 (none) (i := 11) rfl rfl rfl rfl rfl (op_nilCheck_c rfl rfl ⟨rfl, rfl⟩) ?_) | (refine EOps.d 147 (none) (i := 11) rfl rfl rfl rfl rfl (op_nilCheck_f rfl rfl ⟨rfl, rfl⟩) ?_)
                first | (refine EOps.d 148 (none) (i := 12) rfl rfl rfl rfl rfl (op_fieldAddr_m rfl tf_57_2 rfl ⟨rfl, rfl⟩) ?_) | (refine EOps.d 148 (none) (i := 12) rfl rfl rfl rfl rfl (op_fieldAddr_c rfl tf_57_2 rfl rfl ⟨rfl, rfl⟩) ?_)
                first | (refine EOps.w 0 (i := 13) rfl rfl rfl rfl rfl (op_store (i := 0) rfl ts_37 rfl rfl rfl rfl rfl (Nat.le_of_ble_eq_true rfl) rfl ⟨_, rfl, ?_⟩)) | (refine EOps.w 1 (i := 13) rfl rfl rfl rfl rfl (op_store (i := 0) rfl ts_37 rfl rfl rfl rfl rfl (Nat.le_of_ble_eq_true rfl) rfl ⟨_, rfl, ?_⟩)) | (refine EOps.w 2 (i := 13) rfl rfl rfl rfl rfl (op_store (i := 0) rfl ts_37 rfl rfl rfl rfl rfl (Nat.le_of_ble_eq_true rfl) rfl ⟨_, rfl, ?_⟩)) | (refine EOps.w 3 (i := 13) rfl rfl rfl rfl rfl (op_store (i := 0) rfl ts_37 rfl rfl rfl rfl rfl (Nat.le_of_ble_eq_true rfl) rfl ⟨_, rfl, ?_⟩)) | (refine EOps.w 4 (i := 13) rfl rfl rfl rfl rfl (op_store (i := 0) rfl ts_37 rfl rfl rfl rfl rfl (Nat.le_of_ble_eq_true rfl) rfl ⟨_, rfl, ?_⟩)) | (refine EOps.w 5 (i := 13) rfl rfl rfl rfl rfl (op_store (i := 0) rfl ts_37 rfl rfl rfl rfl rfl (Nat.le_of_ble_eq_true rfl) rfl ⟨_, rfl, ?_⟩)) | (refine EOps.w 6 (i := 13) rfl rfl rfl rfl rfl (op_store (i := 0) rfl ts_37 rfl rfl rfl rfl rfl (Nat.le_of_ble_eq_true rfl) rfl ⟨_, rfl, ?_⟩)) | (refine EOps.w 7 (i := 13) rfl rfl rfl rfl rfl (op_store (i := 0) rfl ts_37 rfl rfl rfl rfl rfl (Nat.le_of_ble_eq_true rfl) rfl ⟨_, rfl, ?_⟩)) | (refine EOps.w 8 (i := 13) rfl rfl rfl rfl rfl (op_store (i := 0) rfl ts_37 rfl rfl rfl rfl rfl (Nat.le_of_ble_eq_true rfl) rfl ⟨_, rfl, ?_⟩)) | (refine EOps.w 9 (i := 13) rfl rfl rfl rfl rfl (op_store (i := 0) rfl ts_37 rfl rfl rfl rfl rfl (Nat.le_of_ble_eq_true rfl) rfl ⟨_, rfl, ?_⟩))
                show AGo _ _ _ _ _ _ _
                refine go_code ?_
                refine c_seq ?_
                refine c_region ?_
                refine AOps.st 149 rfl rfl rfl (op_callp (xs := [.const (.string ⟨#[85, 110, 105, 116]⟩)]) rfl rfl (HK) (by first | exact Les.refl _ | (repeat' (first | exact Les.refl _ | refine Les.cons ?_ ?_ | exact Le.refl _ | exact Le.own _ _ _ | exact Le.nil _ | refine Le.agg ?_))) ?_)
                first | (refine AOps.st0 rfl rfl (op_store (cs' := [_, _, _, _, _, _]) (i := 0) rfl ts_69 rfl rfl rfl rfl rfl (Nat.le_of_ble_eq_true rfl) rfl ?_)) | (refine AOps.st0 rfl rfl (op_store (cs' := [_, _, _, _, _, _]) (i := 1) rfl ts_69 rfl rfl rfl rfl rfl (Nat.le_of_ble_eq_true rfl) rfl ?_)) | (refine AOps.st0 rfl rfl (op_store (cs' := [_, _, _, _, _, _]) (i := 2) rfl ts_69 rfl rfl rfl rfl rfl (Nat.le_of_ble_eq_true rfl) rfl ?_)) | (refine AOps.st0 rfl rfl (op_store (cs' := [_, _, _, _, _, _]) (i := 3) rfl ts_69 rfl rfl rfl rfl rfl (Nat.le_of_ble_eq_true rfl) rfl ?_)) | (refine AOps.st0 rfl rfl (op_store (cs' := [_, _, _, _, _, _]) (i := 4) rfl ts_69 rfl rfl rfl rfl rfl (Nat.le_of_ble_eq_true rfl) rfl ?_)) | (refine AOps.st0 rfl rfl (op_store (cs' := [_, _, _, _, _, _]) (i := 5) rfl ts_69 rfl rfl rfl rfl rfl (Nat.le_of_ble_eq_true rfl) rfl ?_)) | (refine AOps.st0 rfl rfl (op_store (cs' := [_, _, _, _, _, _]) (i := 6) rfl ts_69 rfl rfl rfl rfl rfl (Nat.le_of_ble_eq_true rfl) rfl ?_)) | (refine AOps.st0 rfl rfl (op_store (cs' := [_, _, _, _, _, _]) (i := 7) rfl ts_69 rfl rfl rfl rfl rfl (Nat.le_of_ble_eq_true rfl) rfl ?_)) | (refine AOps.st0 rfl rfl (op_store (cs' := [_, _, _, _, _, _]) (i := 8) rfl ts_69 rfl rfl rfl rfl rfl (Nat.le_of_ble_eq_true rfl) rfl ?_)) | (refine AOps.st0 rfl rfl (op_store (cs' := [_, _, _, _, _, _]) (i := 9) rfl ts_69 rfl rfl rfl rfl rfl (Nat.le_of_ble_eq_true rfl) rfl ?_))
                refine AOps.nil ?_
                refine go_code ?_
                refine c_ret ?_
                exact out_cell (i := 0) rfl rfl rfl ta_69 rfl (Le.refl _) (MLe.drop _ (MLe.loc b (Les.cons (Le.refl _) (Les.cons (Le.refl _) (Les.cons (Le.own _ _ _) (Les.refl _)))) (MLe.none _))) ⟨rfl, rfl⟩
            · exact g114.elim
          · exact g100.elim
        · exact g82.elim
      · exact g64.elim
    · exact g46.elim
  · exact g10.elim
end Go.Proofs.Ytflkdojahfmbnaa
