/- TreeSames: two expressions are the same just if the document says so. -/
import Derived.Test.YtjgjnheeohfmmaaChecked
import Derived.Test.YtjgjnheeohfmmaaRows
import Derived.Test.YtjgjnheeohfmmaaAZ
import Derived.Test.YtjgjnheeohfmmaaOE
import Derived.Test.YtjgjnheeohfmmaaB05q
namespace Go.Proofs.Ytjgjnheeohfmmaa
open Go.ChangeShapes Go.WideShapes Go.ChangeAt Go.RowKit
theorem bool_same {a b : Bool} {p : Prop} (ha : a = true ↔ p) (hb : b = true ↔ p) : a = b := by
  cases a <;> cases b <;> simp_all
set_option maxHeartbeats 4000000 in
set_option maxRecDepth 100000 in
theorem TreeSames_c (a b : Ex) (hLa : a.Lim) (hLb : b.Lim) : ACall Try.prog 8 [.agg a.cells, .agg b.cells] [] (fun v _ => v = .val (.bool true)) := by
  have HA := Small5_c a 500 hLa (by omega) (by omega)
  have HB := Small5_c b 500 hLb (by omega) (by omega)
  have H1 := tSame_c a b
  have H2 := rSame_c a b
  have H3 := (tSame_c a a).yes rfl
  generalize a.full = fa at *
  generalize b.full = fb at *
  generalize a.bare = ba at *
  generalize b.bare = bb at *
  obtain ⟨k1, s1, n1, ⟨tk1, ts1, tn1, tks1⟩, ks1, al1, bs1, p1⟩ := a
  obtain ⟨k2, s2, n2, ⟨tk2, ts2, tn2, tks2⟩, ks2, al2, bs2, p2⟩ := b
  have H4 := tSameType_c ⟨tk1, ts1, tn1, tks1⟩ ⟨tk2, ts2, tn2, tks2⟩
  have H5 := SameType_c ⟨tk1, ts1, tn1, tks1⟩ ⟨tk2, ts2, tn2, tks2⟩
  have hl1 := Al.cellss_len al1
  have hl2 := Al.cellss_len al2
  refine ACall.enter Try.func8 rfl (by kernel_rfl) rfl (Nat.le_of_ble_eq_true rfl) ?_
  refine c_start ?_
  refine c_lena (t := 0) (j := 8) rfl rfl (.seq _ _) (fun hmax => ?_)
  refine c_seq ?_
  refine c_region ?_
  refine AOps.st 2 rfl rfl rfl (op_boxc (cs' := [_, _, _, _, _, _, _, _, _, _, _]) rfl rfl rfl rfl ?_)
  refine AOps.st 3 rfl rfl rfl (op_boxc (cs' := [_, _, _, _, _, _, _, _, _, _, _]) rfl rfl rfl rfl ?_)
  refine AOps.st 4 rfl rfl rfl (op_assign rfl rfl ?_)
  refine AOps.nil ?_
  refine go_code ?_
  refine c_seq ?_
  refine c_seq ?_
  refine c_region ?_
  refine AOps.st 6 rfl rfl rfl (op_callp (xs := []) rfl rfl (awake05_c) (by first | exact Les.refl _ | (repeat' (first | exact Les.refl _ | refine Les.cons ?_ ?_ | exact Le.refl _ | exact Le.own _ _ _ | exact Le.nil _ | refine Le.agg ?_))) ?_)
  refine AOps.st 7 rfl rfl rfl (op_notc rfl rfl ?_); intro c7 h7
  try replace h7 := nott h7 h6
  refine AOps.nil ?_
  refine go_code ?_
  rcases bool_split h7 with ⟨rfl, g7⟩ | ⟨rfl, g7⟩
  · refine c_cond_f rfl ?_
    refine c_skip ?_
    refine go_code ?_
    refine c_seq ?_
    refine c_seq ?_
    refine c_bool 15 (¬ ((fa : Int) ≤ 500 ∧ (fb : Int) ≤ 500)) ?_ _ _ rfl ?_
    · skip
      refine AOps.st 8 rfl rfl rfl (op_load_c (cs' := [_, _, _, _, _, _, _, _, _, _, _]) rfl ta_60 rfl rfl rfl ?_)
      refine AOps.st 9 rfl rfl rfl (op_callb (xs := [.tmp 8, .const (.int .i64 500)]) rfl rfl (HA) (by first | exact Les.refl _ | (repeat' (first | exact Les.refl _ | refine Les.cons ?_ ?_ | exact Le.refl _ | exact Le.own _ _ _ | exact Le.nil _ | refine Le.agg ?_))) ?_); intro c9 h9
      refine AOps.st 10 rfl rfl rfl (op_notc rfl rfl ?_); intro c10 h10
      try replace h10 := nott h10 h9
      refine AOps.st 11 rfl rfl rfl (op_move rfl rfl ?_)
      rcases bool_split h10 with ⟨rfl, g10⟩ | ⟨rfl, g10⟩
      · skip
        refine AOps.gt 12 rfl rfl rfl rfl rfl (op_load_c (cs' := [_, _, _, _, _, _, _, _, _, _, _]) rfl ta_60 rfl rfl rfl ?_)
        refine AOps.gt 13 rfl rfl rfl rfl rfl (op_callb (xs := [.tmp 12, .const (.int .i64 500)]) rfl rfl (HB) (by first | exact Les.refl _ | (repeat' (first | exact Les.refl _ | refine Les.cons ?_ ?_ | exact Le.refl _ | exact Le.own _ _ _ | exact Le.nil _ | refine Le.agg ?_))) ?_); intro c13 h13
        refine AOps.gt 14 rfl rfl rfl rfl rfl (op_notc rfl rfl ?_); intro c14 h14
        try replace h14 := nott h14 h13
        refine AOps.st 15 rfl rfl rfl (op_pick rfl rfl rfl ?_)
        refine AOps.nil ?_
        refine BoolQ.mk rfl ?_ (by repeat' (first | exact SLe.wo _ _ | exact SLe.refl _ | refine SLe.fresh rfl ?_)) (by first | exact MLe.none _ | exact MLe.refl _ | (repeat' (first | exact MLe.nil | exact MLe.refl _ | refine MLe.cons _ ?_ | refine MLe.drop _ ?_)))
        first | (simp_all; done) | (simp_all; omega)
      · skip
        refine AOps.gf 12 rfl rfl rfl rfl rfl ?_
        refine AOps.gf 13 rfl rfl rfl rfl rfl ?_
        refine AOps.gf 14 rfl rfl rfl rfl rfl ?_
        refine AOps.st 15 rfl rfl rfl (op_pick rfl rfl rfl ?_)
        refine AOps.nil ?_
        refine BoolQ.mk rfl ?_ (by repeat' (first | exact SLe.wo _ _ | exact SLe.refl _ | refine SLe.fresh rfl ?_)) (by first | exact MLe.none _ | exact MLe.refl _ | (repeat' (first | exact MLe.nil | exact MLe.refl _ | refine MLe.cons _ ?_ | refine MLe.drop _ ?_)))
        first | (simp_all; done) | (simp_all; omega)
    intro c15 h15
    refine go_code ?_
    rcases bool_split h15 with ⟨rfl, g15⟩ | ⟨rfl, g15⟩
    · refine c_cond_f rfl ?_
      refine c_skip ?_
      refine go_code ?_
      refine c_seq ?_
      refine c_seq ?_
      refine c_boold 41 (False) tmix rfl ?_ _ _ rfl ?_
      · skip
        refine DOps.st 16 rfl rfl (op_load_c (cs' := [_, _, _, _, _, _, _, _, _, _, _]) rfl ta_60 rfl rfl rfl ⟨rfl, rfl⟩) ?_
        refine DOps.st 17 rfl rfl (op_load_c (cs' := [_, _, _, _, _, _, _, _, _, _, _]) rfl ta_60 rfl rfl rfl ⟨rfl, rfl⟩) ?_
        refine DOps.cm 18 rfl rfl (fun _ q => op_callb (xs := [.tmp 16, .tmp 17]) rfl rfl (H1) (by first | exact Les.refl _ | (repeat' (first | exact Les.refl _ | refine Les.cons ?_ ?_ | exact Le.refl _ | exact Le.own _ _ _ | exact Le.nil _ | refine Le.agg ?_))) q) ?_; intro c18 h18
        refine DOps.st 19 rfl rfl (op_load_c (cs' := [_, _, _, _, _, _, _, _, _, _, _]) rfl ta_60 rfl rfl rfl ⟨rfl, rfl⟩) ?_
        refine DOps.st 20 rfl rfl (op_load_c (cs' := [_, _, _, _, _, _, _, _, _, _, _]) rfl ta_60 rfl rfl rfl ⟨rfl, rfl⟩) ?_
        refine DOps.cm 21 rfl rfl (fun _ q => op_callb (xs := [.tmp 19, .tmp 20]) rfl rfl (H2) (by first | exact Les.refl _ | (repeat' (first | exact Les.refl _ | refine Les.cons ?_ ?_ | exact Le.refl _ | exact Le.own _ _ _ | exact Le.nil _ | refine Le.agg ?_))) q) ?_; intro c21 h21
        refine DOps.cm 22 rfl rfl (fun _ q => op_bneqc rfl tu_4 rfl rfl q) ?_; intro c22 h22
        refine DOps.st 23 rfl rfl (op_move rfl rfl ⟨rfl, rfl⟩) ?_
        rcases bool_split h22 with ⟨rfl, g22⟩ | ⟨rfl, g22⟩
        · skip
          refine DOps.gt 24 rfl rfl rfl rfl (op_load_c (cs' := [_, _, _, _, _, _, _, _, _, _, _]) rfl ta_60 rfl rfl rfl ⟨rfl, rfl⟩) ?_
          refine DOps.gt 25 rfl rfl rfl rfl (op_load_c (cs' := [_, _, _, _, _, _, _, _, _, _, _]) rfl ta_60 rfl rfl rfl ⟨rfl, rfl⟩) ?_
          refine DOps.gt 26 rfl rfl rfl rfl (op_callp (xs := [.tmp 24, .tmp 25]) rfl rfl (H3) (by first | exact Les.refl _ | (repeat' (first | exact Les.refl _ | refine Les.cons ?_ ?_ | exact Le.refl _ | exact Le.own _ _ _ | exact Le.nil _ | refine Le.agg ?_))) ⟨rfl, rfl⟩) ?_
          refine DOps.gtc 27 rfl rfl rfl rfl (fun _ q => op_notc rfl rfl q) ?_; intro c27 h27
          try replace h27 := nott h27 h26
          refine DOps.st 28 rfl rfl (op_pick rfl rfl rfl ⟨rfl, rfl⟩) ?_
          refine DOps.st 29 rfl rfl (op_move rfl rfl ⟨rfl, rfl⟩) ?_
          rcases bool_split h27 with ⟨rfl, g27⟩ | ⟨rfl, g27⟩
          · skip
            refine DOps.gt 30 rfl rfl rfl rfl (op_fieldAddr_c rfl tf_60_3 rfl rfl ⟨rfl, rfl⟩) ?_
            refine DOps.gt 31 rfl rfl rfl rfl (op_load_c (cs' := [_, _, _, _]) rfl ta_24 rfl rfl rfl ⟨rfl, rfl⟩) ?_
            refine DOps.gt 32 rfl rfl rfl rfl (op_fieldAddr_c rfl tf_60_3 rfl rfl ⟨rfl, rfl⟩) ?_
            refine DOps.gt 33 rfl rfl rfl rfl (op_load_c (cs' := [_, _, _, _]) rfl ta_24 rfl rfl rfl ⟨rfl, rfl⟩) ?_
            refine DOps.gtc 34 rfl rfl rfl rfl (fun _ q => op_callb (xs := [.tmp 31, .tmp 33]) rfl rfl (H4) (by first | exact Les.refl _ | (repeat' (first | exact Les.refl _ | refine Les.cons ?_ ?_ | exact Le.refl _ | exact Le.own _ _ _ | exact Le.nil _ | refine Le.agg ?_))) q) ?_; intro c34 h34
            refine DOps.gt 35 rfl rfl rfl rfl (op_fieldAddr_c rfl tf_60_3 rfl rfl ⟨rfl, rfl⟩) ?_
            refine DOps.gt 36 rfl rfl rfl rfl (op_load_c (cs' := [_, _, _, _]) rfl ta_24 rfl rfl rfl ⟨rfl, rfl⟩) ?_
            refine DOps.gt 37 rfl rfl rfl rfl (op_fieldAddr_c rfl tf_60_3 rfl rfl ⟨rfl, rfl⟩) ?_
            refine DOps.gt 38 rfl rfl rfl rfl (op_load_c (cs' := [_, _, _, _]) rfl ta_24 rfl rfl rfl ⟨rfl, rfl⟩) ?_
            refine DOps.gtc 39 rfl rfl rfl rfl (fun _ q => op_callb (xs := [.tmp 36, .tmp 38]) rfl rfl (H5) (by first | exact Les.refl _ | (repeat' (first | exact Les.refl _ | refine Les.cons ?_ ?_ | exact Le.refl _ | exact Le.own _ _ _ | exact Le.nil _ | refine Le.agg ?_))) q) ?_; intro c39 h39
            refine DOps.gtc 40 rfl rfl rfl rfl (fun _ q => op_bneqc rfl tu_4 rfl rfl q) ?_; intro c40 h40
            refine DOps.st 41 rfl rfl (op_pick rfl rfl rfl ⟨rfl, rfl⟩) ?_
            show BoolQ _ _ _ _ _ _
            refine BoolQ.mk rfl ?_ (by repeat' (first | exact SLe.wo _ _ | exact SLe.refl _ | refine SLe.fresh rfl ?_)) (by first | exact MLe.none _ | exact MLe.refl _ | (repeat' (first | exact MLe.nil | exact MLe.refl _ | refine MLe.cons _ ?_ | refine MLe.drop _ ?_)))
            first | exact absurd (bool_same h18 h21) g22 | (simp_all; done) | (simp_all; exact bool_same h34 h39)
          · skip
            refine DOps.gf 30 rfl rfl rfl rfl ?_
            refine DOps.gf 31 rfl rfl rfl rfl ?_
            refine DOps.gf 32 rfl rfl rfl rfl ?_
            refine DOps.gf 33 rfl rfl rfl rfl ?_
            refine DOps.gf 34 rfl rfl rfl rfl ?_
            refine DOps.gf 35 rfl rfl rfl rfl ?_
            refine DOps.gf 36 rfl rfl rfl rfl ?_
            refine DOps.gf 37 rfl rfl rfl rfl ?_
            refine DOps.gf 38 rfl rfl rfl rfl ?_
            refine DOps.gf 39 rfl rfl rfl rfl ?_
            refine DOps.gf 40 rfl rfl rfl rfl ?_
            refine DOps.st 41 rfl rfl (op_pick rfl rfl rfl ⟨rfl, rfl⟩) ?_
            show BoolQ _ _ _ _ _ _
            refine BoolQ.mk rfl ?_ (by repeat' (first | exact SLe.wo _ _ | exact SLe.refl _ | refine SLe.fresh rfl ?_)) (by first | exact MLe.none _ | exact MLe.refl _ | (repeat' (first | exact MLe.nil | exact MLe.refl _ | refine MLe.cons _ ?_ | refine MLe.drop _ ?_)))
            first | exact absurd (bool_same h18 h21) g22 | (simp_all; done) | (simp_all; exact bool_same h34 h39)
        · skip
          refine DOps.gf 24 rfl rfl rfl rfl ?_
          refine DOps.gf 25 rfl rfl rfl rfl ?_
          refine DOps.gf 26 rfl rfl rfl rfl ?_
          refine DOps.gf 27 rfl rfl rfl rfl ?_
          refine DOps.st 28 rfl rfl (op_pick rfl rfl rfl ⟨rfl, rfl⟩) ?_
          refine DOps.st 29 rfl rfl (op_move rfl rfl ⟨rfl, rfl⟩) ?_
          refine DOps.gf 30 rfl rfl rfl rfl ?_
          refine DOps.gf 31 rfl rfl rfl rfl ?_
          refine DOps.gf 32 rfl rfl rfl rfl ?_
          refine DOps.gf 33 rfl rfl rfl rfl ?_
          refine DOps.gf 34 rfl rfl rfl rfl ?_
          refine DOps.gf 35 rfl rfl rfl rfl ?_
          refine DOps.gf 36 rfl rfl rfl rfl ?_
          refine DOps.gf 37 rfl rfl rfl rfl ?_
          refine DOps.gf 38 rfl rfl rfl rfl ?_
          refine DOps.gf 39 rfl rfl rfl rfl ?_
          refine DOps.gf 40 rfl rfl rfl rfl ?_
          refine DOps.st 41 rfl rfl (op_pick rfl rfl rfl ⟨rfl, rfl⟩) ?_
          show BoolQ _ _ _ _ _ _
          refine BoolQ.mk rfl ?_ (by repeat' (first | exact SLe.wo _ _ | exact SLe.refl _ | refine SLe.fresh rfl ?_)) (by first | exact MLe.none _ | exact MLe.refl _ | (repeat' (first | exact MLe.nil | exact MLe.refl _ | refine MLe.cons _ ?_ | refine MLe.drop _ ?_)))
          first | exact absurd (bool_same h18 h21) g22 | (simp_all; done) | (simp_all; exact bool_same h34 h39)
      intro c41 h41
      refine go_code ?_
      rcases bool_split h41 with ⟨rfl, g41⟩ | ⟨rfl, g41⟩
      · refine c_cond_f rfl ?_
        refine c_skip ?_
        refine go_code ?_
        refine c_seq ?_
        refine c_seq ?_
        refine c_region ?_
        refine AOps.st 42 rfl rfl rfl (op_fieldAddr_c rfl tf_60_5 rfl rfl ?_)
        refine AOps.st 43 rfl rfl rfl (op_load_c1 rfl ta_57 rfl rfl ?_)
        first | (refine AOps.st 44 rfl rfl rfl (op_len rfl tu_57 rfl (.seq _ _) (fun n44 => ?_))) | (refine AOps.st 44 rfl rfl rfl (op_len rfl tu_57 rfl (.own _ _ _) (fun n44 => ?_))) | (refine AOps.st 44 rfl rfl rfl (op_len rfl tu_57 rfl (.nil 0) (fun n44 => ?_))) | (refine AOps.st 44 rfl rfl rfl (op_len_arr rfl tu_57 rfl ?_))
        refine AOps.st 45 rfl rfl rfl (op_move rfl rfl ?_)
        refine AOps.nil ?_
        refine go_code ?_
        refine c_block ?_
        refine c_loop (σ := Nat) (fun zz => match zz with | i => [(2, .cptr (Ex.mk k1 s1 n1 ⟨tk1, ts1, tn1, tks1⟩ ks1 al1 bs1 p1).cells), (3, .cptr (Ex.mk k2 s2 n2 ⟨tk2, ts2, tn2, tks2⟩ ks2 al2 bs2 p2).cells), (44, .val (.int .i64 (Al.cellss al1).length)), (45, .val (.int .i64 i))]) (fun zz => match zz with | i => []) (fun zz => match zz with | i => i ≤ al1.length) (fun zz => match zz with | i => al1.length - i) (0) ?_ ?_ ?_ ?_
        · simp
        · exact (by repeat' (first | exact SLe.nil _ | refine SLe.cons rfl ?_ ?_ | exact Le.refl _ | exact Le.own _ _ _ | exact Le.nil _))
        · exact (by first | exact MLe.none _ | exact MLe.refl _ | (repeat' (first | exact MLe.nil | exact MLe.refl _ | refine MLe.cons _ ?_ | refine MLe.drop _ ?_)))
        rintro i hI
        try dsimp only at hI ⊢
        refine c_seq ?_
        refine c_region ?_
        refine AOps.st 46 rfl rfl rfl (op_lss rfl rfl rfl ?_); intro c46 h46
        refine AOps.nil ?_
        refine go_code ?_
        refine c_seq ?_
        rcases bool_split h46 with ⟨rfl, g46⟩ | ⟨rfl, g46⟩
        · refine c_cond_f rfl ?_
          refine c_exit ?_
          refine x_code ?_
          refine x_lp ?_
          refine x_here ?_
          refine go_code ?_
          refine c_seq ?_
          refine c_region ?_
          refine AOps.st 4 rfl rfl rfl (op_assign rfl rfl ?_)
          refine AOps.nil ?_
          refine go_code ?_
          refine c_ret ?_
          exact out_tmp rfl rfl (Le.refl _) (by first | exact MLe.none _ | exact MLe.refl _ | (repeat' (first | exact MLe.nil | exact MLe.refl _ | refine MLe.cons _ ?_ | refine MLe.drop _ ?_))) rfl
        · refine c_cond_t rfl ?_
          refine c_skip ?_
          refine go_code ?_
          refine c_seq ?_
          refine c_block ?_
          refine c_seq ?_
          refine c_region ?_
          refine AOps.st 47 rfl rfl rfl (op_move rfl rfl ?_)
          refine AOps.st 5 rfl rfl rfl (op_assign rfl rfl ?_)
          refine AOps.nil ?_
          refine go_code ?_
          refine c_seq ?_
          obtain ⟨⟨⟨qk, qs, qn, qks, qp⟩, ⟨yk, yt, yn, ⟨ytk, yts, ytn, ytks⟩, yks, yal, ybs, yp⟩⟩, hx⟩ := get_some (l := al1) (i := i) (by omega)
          have hcx := Al.cellss_get hx
          obtain ⟨⟨⟨rk, rs, rn, rks, rp⟩, ⟨zk, zt, zn, ⟨ztk, zts, ztn, ztks⟩, zks, zal, zbs, zp⟩⟩, hz⟩ : ∃ x, i < al2.length → al2[i]? = some x := by
            by_cases q : i < al2.length
            · exact ⟨al2[i], fun _ => List.getElem?_eq_getElem q⟩
            · exact ⟨⟨⟨0, ⟨#[]⟩, 0, [], 0⟩, ⟨0, ⟨#[]⟩, 0, ⟨0, ⟨#[]⟩, 0, []⟩, [], [], [], 0⟩⟩, fun h => absurd h q⟩
          refine c_boold 81 (False) tmix rfl ?_ _ _ rfl ?_
          · skip
            refine DOps.st 48 rfl rfl (op_move rfl rfl ⟨rfl, rfl⟩) ?_
            refine DOps.st 49 rfl rfl (op_fieldAddr_c rfl tf_60_5 rfl rfl ⟨rfl, rfl⟩) ?_
            refine DOps.st 50 rfl rfl (op_load_c1 rfl ta_57 rfl rfl ⟨rfl, rfl⟩) ?_
            first | (refine DOps.st 51 rfl rfl (op_len rfl tu_57 rfl (.seq _ _) (fun _ => ⟨rfl, rfl⟩)) ?_) | (refine DOps.st 51 rfl rfl (op_len rfl tu_57 rfl (.own _ _ _) (fun _ => ⟨rfl, rfl⟩)) ?_) | (refine DOps.st 51 rfl rfl (op_len rfl tu_57 rfl (.nil 0) (fun _ => ⟨rfl, rfl⟩)) ?_) | (refine DOps.st 51 rfl rfl (op_len_arr rfl tu_57 rfl ⟨rfl, rfl⟩) ?_)
            refine DOps.cm 52 rfl rfl (fun _ q => op_lss rfl rfl rfl q) ?_; intro c52 h52
            refine DOps.st 53 rfl rfl (op_move rfl rfl ⟨rfl, rfl⟩) ?_
            rcases bool_split h52 with ⟨rfl, g52⟩ | ⟨rfl, g52⟩
            · skip
              refine DOps.gf 54 rfl rfl rfl rfl ?_
              refine DOps.gf 55 rfl rfl rfl rfl ?_
              refine DOps.gf 56 rfl rfl rfl rfl ?_
              refine DOps.gf 57 rfl rfl rfl rfl ?_
              refine DOps.gf 58 rfl rfl rfl rfl ?_
              refine DOps.gf 59 rfl rfl rfl rfl ?_
              refine DOps.gf 60 rfl rfl rfl rfl ?_
              refine DOps.gf 61 rfl rfl rfl rfl ?_
              refine DOps.gf 62 rfl rfl rfl rfl ?_
              refine DOps.gf 63 rfl rfl rfl rfl ?_
              refine DOps.gf 64 rfl rfl rfl rfl ?_
              refine DOps.gf 65 rfl rfl rfl rfl ?_
              refine DOps.gf 66 rfl rfl rfl rfl ?_
              refine DOps.gf 67 rfl rfl rfl rfl ?_
              refine DOps.gf 68 rfl rfl rfl rfl ?_
              refine DOps.gf 69 rfl rfl rfl rfl ?_
              refine DOps.gf 70 rfl rfl rfl rfl ?_
              refine DOps.gf 71 rfl rfl rfl rfl ?_
              refine DOps.gf 72 rfl rfl rfl rfl ?_
              refine DOps.gf 73 rfl rfl rfl rfl ?_
              refine DOps.gf 74 rfl rfl rfl rfl ?_
              refine DOps.gf 75 rfl rfl rfl rfl ?_
              refine DOps.gf 76 rfl rfl rfl rfl ?_
              refine DOps.gf 77 rfl rfl rfl rfl ?_
              refine DOps.gf 78 rfl rfl rfl rfl ?_
              refine DOps.gf 79 rfl rfl rfl rfl ?_
              refine DOps.gf 80 rfl rfl rfl rfl ?_
              refine DOps.st 81 rfl rfl (op_pick rfl rfl rfl ⟨rfl, rfl⟩) ?_
              show BoolQ _ _ _ _ _ _
              refine BoolQ.mk rfl ?_ (by repeat' (first | exact SLe.wo _ _ | exact SLe.refl _ | refine SLe.fresh rfl ?_)) (by first | exact MLe.none _ | exact MLe.refl _ | (repeat' (first | exact MLe.nil | exact MLe.refl _ | refine MLe.cons _ ?_ | refine MLe.drop _ ?_)))
              first | (simp_all; done) | (simp_all; exact bool_same h66 h79)
            · skip
              refine DOps.gt 54 rfl rfl rfl rfl (op_fieldAddr_c rfl tf_60_5 rfl rfl ⟨rfl, rfl⟩) ?_
              refine DOps.gt 55 rfl rfl rfl rfl (op_load_c1 rfl ta_57 rfl rfl ⟨rfl, rfl⟩) ?_
              refine DOps.gt 56 rfl rfl rfl rfl (op_move rfl rfl ⟨rfl, rfl⟩) ?_
              first | (refine DOps.gt 57 rfl rfl rfl rfl (op_index rfl te_57 rfl (.seq _ _) rfl rfl ((by first | exact hcx | exact Al.cellss_get (hz (by omega)))) ⟨rfl, rfl⟩) ?_) | (refine DOps.gt 57 rfl rfl rfl rfl (op_index (i := 0) rfl te_57 rfl (.seq _ _) rfl rfl (by first | rfl | assumption) ⟨rfl, rfl⟩) ?_) | (refine DOps.gt 57 rfl rfl rfl rfl (op_index (i := 1) rfl te_57 rfl (.seq _ _) rfl rfl (by first | rfl | assumption) ⟨rfl, rfl⟩) ?_) | (refine DOps.gt 57 rfl rfl rfl rfl (op_index rfl te_57 rfl (.own _ _ _) rfl rfl ((by first | exact hcx | exact Al.cellss_get (hz (by omega)))) ⟨rfl, rfl⟩) ?_) | (refine DOps.gt 57 rfl rfl rfl rfl (op_index (i := 0) rfl te_57 rfl (.own _ _ _) rfl rfl (by first | rfl | assumption) ⟨rfl, rfl⟩) ?_) | (refine DOps.gt 57 rfl rfl rfl rfl (op_index (i := 1) rfl te_57 rfl (.own _ _ _) rfl rfl (by first | rfl | assumption) ⟨rfl, rfl⟩) ?_) | (refine DOps.gt 57 rfl rfl rfl rfl (op_index_arr rfl te_57 rfl rfl rfl (by omega) ⟨rfl, rfl⟩) ?_)
              first | (refine DOps.gt 58 rfl rfl rfl rfl (op_fieldAddr_m rfl tf_70_0 rfl ⟨rfl, rfl⟩) ?_) | (refine DOps.gt 58 rfl rfl rfl rfl (op_fieldAddr_c rfl tf_70_0 rfl rfl ⟨rfl, rfl⟩) ?_)
              first | (refine DOps.gt 59 rfl rfl rfl rfl (op_load_m (cs' := [_, _, _, _, _]) (i := 0) rfl ta_68 rfl rfl rfl rfl ⟨rfl, rfl⟩) ?_) | (refine DOps.gt 59 rfl rfl rfl rfl (op_load_m (cs' := [_, _, _, _, _]) (i := 1) rfl ta_68 rfl rfl rfl rfl ⟨rfl, rfl⟩) ?_) | (refine DOps.gt 59 rfl rfl rfl rfl (op_load_m (cs' := [_, _, _, _, _]) (i := 2) rfl ta_68 rfl rfl rfl rfl ⟨rfl, rfl⟩) ?_) | (refine DOps.gt 59 rfl rfl rfl rfl (op_load_m (cs' := [_, _, _, _, _]) (i := 3) rfl ta_68 rfl rfl rfl rfl ⟨rfl, rfl⟩) ?_) | (refine DOps.gt 59 rfl rfl rfl rfl (op_load_m (cs' := [_, _, _, _, _]) (i := 4) rfl ta_68 rfl rfl rfl rfl ⟨rfl, rfl⟩) ?_) | (refine DOps.gt 59 rfl rfl rfl rfl (op_load_m (cs' := [_, _, _, _, _]) (i := 5) rfl ta_68 rfl rfl rfl rfl ⟨rfl, rfl⟩) ?_) | (refine DOps.gt 59 rfl rfl rfl rfl (op_load_c (cs' := [_, _, _, _, _]) rfl ta_68 rfl rfl rfl ⟨rfl, rfl⟩) ?_)
              refine DOps.gt 60 rfl rfl rfl rfl (op_fieldAddr_c rfl tf_60_5 rfl rfl ⟨rfl, rfl⟩) ?_
              refine DOps.gt 61 rfl rfl rfl rfl (op_load_c1 rfl ta_57 rfl rfl ⟨rfl, rfl⟩) ?_
              refine DOps.gt 62 rfl rfl rfl rfl (op_move rfl rfl ⟨rfl, rfl⟩) ?_
              first | (refine DOps.gt 63 rfl rfl rfl rfl (op_index rfl te_57 rfl (.seq _ _) rfl rfl ((by first | exact hcx | exact Al.cellss_get (hz (by omega)))) ⟨rfl, rfl⟩) ?_) | (refine DOps.gt 63 rfl rfl rfl rfl (op_index (i := 0) rfl te_57 rfl (.seq _ _) rfl rfl (by first | rfl | assumption) ⟨rfl, rfl⟩) ?_) | (refine DOps.gt 63 rfl rfl rfl rfl (op_index (i := 1) rfl te_57 rfl (.seq _ _) rfl rfl (by first | rfl | assumption) ⟨rfl, rfl⟩) ?_) | (refine DOps.gt 63 rfl rfl rfl rfl (op_index rfl te_57 rfl (.own _ _ _) rfl rfl ((by first | exact hcx | exact Al.cellss_get (hz (by omega)))) ⟨rfl, rfl⟩) ?_) | (refine DOps.gt 63 rfl rfl rfl rfl (op_index (i := 0) rfl te_57 rfl (.own _ _ _) rfl rfl (by first | rfl | assumption) ⟨rfl, rfl⟩) ?_) | (refine DOps.gt 63 rfl rfl rfl rfl (op_index (i := 1) rfl te_57 rfl (.own _ _ _) rfl rfl (by first | rfl | assumption) ⟨rfl, rfl⟩) ?_) | (refine DOps.gt 63 rfl rfl rfl rfl (op_index_arr rfl te_57 rfl rfl rfl (by omega) ⟨rfl, rfl⟩) ?_)
              first | (refine DOps.gt 64 rfl rfl rfl rfl (op_fieldAddr_m rfl tf_70_0 rfl ⟨rfl, rfl⟩) ?_) | (refine DOps.gt 64 rfl rfl rfl rfl (op_fieldAddr_c rfl tf_70_0 rfl rfl ⟨rfl, rfl⟩) ?_)
              first | (refine DOps.gt 65 rfl rfl rfl rfl (op_load_m (cs' := [_, _, _, _, _]) (i := 0) rfl ta_68 rfl rfl rfl rfl ⟨rfl, rfl⟩) ?_) | (refine DOps.gt 65 rfl rfl rfl rfl (op_load_m (cs' := [_, _, _, _, _]) (i := 1) rfl ta_68 rfl rfl rfl rfl ⟨rfl, rfl⟩) ?_) | (refine DOps.gt 65 rfl rfl rfl rfl (op_load_m (cs' := [_, _, _, _, _]) (i := 2) rfl ta_68 rfl rfl rfl rfl ⟨rfl, rfl⟩) ?_) | (refine DOps.gt 65 rfl rfl rfl rfl (op_load_m (cs' := [_, _, _, _, _]) (i := 3) rfl ta_68 rfl rfl rfl rfl ⟨rfl, rfl⟩) ?_) | (refine DOps.gt 65 rfl rfl rfl rfl (op_load_m (cs' := [_, _, _, _, _]) (i := 4) rfl ta_68 rfl rfl rfl rfl ⟨rfl, rfl⟩) ?_) | (refine DOps.gt 65 rfl rfl rfl rfl (op_load_m (cs' := [_, _, _, _, _]) (i := 5) rfl ta_68 rfl rfl rfl rfl ⟨rfl, rfl⟩) ?_) | (refine DOps.gt 65 rfl rfl rfl rfl (op_load_c (cs' := [_, _, _, _, _]) rfl ta_68 rfl rfl rfl ⟨rfl, rfl⟩) ?_)
              refine DOps.gtc 66 rfl rfl rfl rfl (fun _ q => op_callb (xs := [.tmp 59, .tmp 65]) rfl rfl (tSamePat_c ⟨qk, qs, qn, qks, qp⟩ ⟨rk, rs, rn, rks, rp⟩) (by first | exact Les.refl _ | (repeat' (first | exact Les.refl _ | refine Les.cons ?_ ?_ | exact Le.refl _ | exact Le.own _ _ _ | exact Le.nil _ | refine Le.agg ?_))) q) ?_; intro c66 h66
              refine DOps.gt 67 rfl rfl rfl rfl (op_fieldAddr_c rfl tf_60_5 rfl rfl ⟨rfl, rfl⟩) ?_
              refine DOps.gt 68 rfl rfl rfl rfl (op_load_c1 rfl ta_57 rfl rfl ⟨rfl, rfl⟩) ?_
              refine DOps.gt 69 rfl rfl rfl rfl (op_move rfl rfl ⟨rfl, rfl⟩) ?_
              first | (refine DOps.gt 70 rfl rfl rfl rfl (op_index rfl te_57 rfl (.seq _ _) rfl rfl ((by first | exact hcx | exact Al.cellss_get (hz (by omega)))) ⟨rfl, rfl⟩) ?_) | (refine DOps.gt 70 rfl rfl rfl rfl (op_index (i := 0) rfl te_57 rfl (.seq _ _) rfl rfl (by first | rfl | assumption) ⟨rfl, rfl⟩) ?_) | (refine DOps.gt 70 rfl rfl rfl rfl (op_index (i := 1) rfl te_57 rfl (.seq _ _) rfl rfl (by first | rfl | assumption) ⟨rfl, rfl⟩) ?_) | (refine DOps.gt 70 rfl rfl rfl rfl (op_index rfl te_57 rfl (.own _ _ _) rfl rfl ((by first | exact hcx | exact Al.cellss_get (hz (by omega)))) ⟨rfl, rfl⟩) ?_) | (refine DOps.gt 70 rfl rfl rfl rfl (op_index (i := 0) rfl te_57 rfl (.own _ _ _) rfl rfl (by first | rfl | assumption) ⟨rfl, rfl⟩) ?_) | (refine DOps.gt 70 rfl rfl rfl rfl (op_index (i := 1) rfl te_57 rfl (.own _ _ _) rfl rfl (by first | rfl | assumption) ⟨rfl, rfl⟩) ?_) | (refine DOps.gt 70 rfl rfl rfl rfl (op_index_arr rfl te_57 rfl rfl rfl (by omega) ⟨rfl, rfl⟩) ?_)
              first | (refine DOps.gt 71 rfl rfl rfl rfl (op_fieldAddr_m rfl tf_70_0 rfl ⟨rfl, rfl⟩) ?_) | (refine DOps.gt 71 rfl rfl rfl rfl (op_fieldAddr_c rfl tf_70_0 rfl rfl ⟨rfl, rfl⟩) ?_)
              first | (refine DOps.gt 72 rfl rfl rfl rfl (op_load_m (cs' := [_, _, _, _, _]) (i := 0) rfl ta_68 rfl rfl rfl rfl ⟨rfl, rfl⟩) ?_) | (refine DOps.gt 72 rfl rfl rfl rfl (op_load_m (cs' := [_, _, _, _, _]) (i := 1) rfl ta_68 rfl rfl rfl rfl ⟨rfl, rfl⟩) ?_) | (refine DOps.gt 72 rfl rfl rfl rfl (op_load_m (cs' := [_, _, _, _, _]) (i := 2) rfl ta_68 rfl rfl rfl rfl ⟨rfl, rfl⟩) ?_) | (refine DOps.gt 72 rfl rfl rfl rfl (op_load_m (cs' := [_, _, _, _, _]) (i := 3) rfl ta_68 rfl rfl rfl rfl ⟨rfl, rfl⟩) ?_) | (refine DOps.gt 72 rfl rfl rfl rfl (op_load_m (cs' := [_, _, _, _, _]) (i := 4) rfl ta_68 rfl rfl rfl rfl ⟨rfl, rfl⟩) ?_) | (refine DOps.gt 72 rfl rfl rfl rfl (op_load_m (cs' := [_, _, _, _, _]) (i := 5) rfl ta_68 rfl rfl rfl rfl ⟨rfl, rfl⟩) ?_) | (refine DOps.gt 72 rfl rfl rfl rfl (op_load_c (cs' := [_, _, _, _, _]) rfl ta_68 rfl rfl rfl ⟨rfl, rfl⟩) ?_)
              refine DOps.gt 73 rfl rfl rfl rfl (op_fieldAddr_c rfl tf_60_5 rfl rfl ⟨rfl, rfl⟩) ?_
              refine DOps.gt 74 rfl rfl rfl rfl (op_load_c1 rfl ta_57 rfl rfl ⟨rfl, rfl⟩) ?_
              refine DOps.gt 75 rfl rfl rfl rfl (op_move rfl rfl ⟨rfl, rfl⟩) ?_
              first | (refine DOps.gt 76 rfl rfl rfl rfl (op_index rfl te_57 rfl (.seq _ _) rfl rfl ((by first | exact hcx | exact Al.cellss_get (hz (by omega)))) ⟨rfl, rfl⟩) ?_) | (refine DOps.gt 76 rfl rfl rfl rfl (op_index (i := 0) rfl te_57 rfl (.seq _ _) rfl rfl (by first | rfl | assumption) ⟨rfl, rfl⟩) ?_) | (refine DOps.gt 76 rfl rfl rfl rfl (op_index (i := 1) rfl te_57 rfl (.seq _ _) rfl rfl (by first | rfl | assumption) ⟨rfl, rfl⟩) ?_) | (refine DOps.gt 76 rfl rfl rfl rfl (op_index rfl te_57 rfl (.own _ _ _) rfl rfl ((by first | exact hcx | exact Al.cellss_get (hz (by omega)))) ⟨rfl, rfl⟩) ?_) | (refine DOps.gt 76 rfl rfl rfl rfl (op_index (i := 0) rfl te_57 rfl (.own _ _ _) rfl rfl (by first | rfl | assumption) ⟨rfl, rfl⟩) ?_) | (refine DOps.gt 76 rfl rfl rfl rfl (op_index (i := 1) rfl te_57 rfl (.own _ _ _) rfl rfl (by first | rfl | assumption) ⟨rfl, rfl⟩) ?_) | (refine DOps.gt 76 rfl rfl rfl rfl (op_index_arr rfl te_57 rfl rfl rfl (by omega) ⟨rfl, rfl⟩) ?_)
              first | (refine DOps.gt 77 rfl rfl rfl rfl (op_fieldAddr_m rfl tf_70_0 rfl ⟨rfl, rfl⟩) ?_) | (refine DOps.gt 77 rfl rfl rfl rfl (op_fieldAddr_c rfl tf_70_0 rfl rfl ⟨rfl, rfl⟩) ?_)
              first | (refine DOps.gt 78 rfl rfl rfl rfl (op_load_m (cs' := [_, _, _, _, _]) (i := 0) rfl ta_68 rfl rfl rfl rfl ⟨rfl, rfl⟩) ?_) | (refine DOps.gt 78 rfl rfl rfl rfl (op_load_m (cs' := [_, _, _, _, _]) (i := 1) rfl ta_68 rfl rfl rfl rfl ⟨rfl, rfl⟩) ?_) | (refine DOps.gt 78 rfl rfl rfl rfl (op_load_m (cs' := [_, _, _, _, _]) (i := 2) rfl ta_68 rfl rfl rfl rfl ⟨rfl, rfl⟩) ?_) | (refine DOps.gt 78 rfl rfl rfl rfl (op_load_m (cs' := [_, _, _, _, _]) (i := 3) rfl ta_68 rfl rfl rfl rfl ⟨rfl, rfl⟩) ?_) | (refine DOps.gt 78 rfl rfl rfl rfl (op_load_m (cs' := [_, _, _, _, _]) (i := 4) rfl ta_68 rfl rfl rfl rfl ⟨rfl, rfl⟩) ?_) | (refine DOps.gt 78 rfl rfl rfl rfl (op_load_m (cs' := [_, _, _, _, _]) (i := 5) rfl ta_68 rfl rfl rfl rfl ⟨rfl, rfl⟩) ?_) | (refine DOps.gt 78 rfl rfl rfl rfl (op_load_c (cs' := [_, _, _, _, _]) rfl ta_68 rfl rfl rfl ⟨rfl, rfl⟩) ?_)
              refine DOps.gtc 79 rfl rfl rfl rfl (fun _ q => op_callb (xs := [.tmp 72, .tmp 78]) rfl rfl (rSamePat_c ⟨qk, qs, qn, qks, qp⟩ ⟨rk, rs, rn, rks, rp⟩) (by first | exact Les.refl _ | (repeat' (first | exact Les.refl _ | refine Les.cons ?_ ?_ | exact Le.refl _ | exact Le.own _ _ _ | exact Le.nil _ | refine Le.agg ?_))) q) ?_; intro c79 h79
              refine DOps.gtc 80 rfl rfl rfl rfl (fun _ q => op_bneqc rfl tu_4 rfl rfl q) ?_; intro c80 h80
              refine DOps.st 81 rfl rfl (op_pick rfl rfl rfl ⟨rfl, rfl⟩) ?_
              show BoolQ _ _ _ _ _ _
              refine BoolQ.mk rfl ?_ (by repeat' (first | exact SLe.wo _ _ | exact SLe.refl _ | refine SLe.fresh rfl ?_)) (by first | exact MLe.none _ | exact MLe.refl _ | (repeat' (first | exact MLe.nil | exact MLe.refl _ | refine MLe.cons _ ?_ | refine MLe.drop _ ?_)))
              first | (simp_all; done) | (simp_all; exact bool_same h66 h79)
          intro c81 h81
          refine go_code ?_
          rcases bool_split h81 with ⟨rfl, g81⟩ | ⟨rfl, g81⟩
          · refine c_cond_f rfl ?_
            refine c_skip ?_
            refine go_blk ?_
            refine go_code ?_
            refine c_region ?_
            first | (refine AOps.st 82 rfl rfl rfl (op_add rfl rfl rfl (IntWalk.i64_in _ (by omega)) ?_)) | (refine AOps.st 82 rfl rfl rfl (op_add rfl rfl rfl rfl ?_))
            refine AOps.st 45 rfl rfl rfl (op_move rfl rfl ?_)
            refine AOps.nil ?_
            refine go_lp ?_
            exact ⟨i + 1, by simp; omega, by simp; omega, (by repeat' (first | exact SLe.nil _ | refine SLe.cons rfl ?_ ?_ | exact Le.refl _ | exact Le.own _ _ _ | exact Le.nil _)), (by first | exact MLe.none _ | exact MLe.refl _ | (repeat' (first | exact MLe.nil | exact MLe.refl _ | refine MLe.cons _ ?_ | refine MLe.drop _ ?_)))⟩
          · refine c_cond_t rfl ?_
            refine c_seq ?_
            exact g81.elim
      · refine c_cond_t rfl ?_
        refine c_seq ?_
        exact g41.elim
    · refine c_cond_t rfl ?_
      refine c_seq ?_
      refine c_region ?_
      refine AOps.st 4 rfl rfl rfl (op_assign rfl rfl ?_)
      refine AOps.nil ?_
      refine go_code ?_
      refine c_ret ?_
      exact out_tmp rfl rfl (Le.refl _) (by first | exact MLe.none _ | exact MLe.refl _ | (repeat' (first | exact MLe.nil | exact MLe.refl _ | refine MLe.cons _ ?_ | refine MLe.drop _ ?_))) rfl
  · refine c_cond_t rfl ?_
    refine c_seq ?_
    exact absurd g7 (by simp)
theorem treeSames_own : ownKnob Try.prog.godebug = none := by kernel_rfl
theorem treeSames_laidOut : laidOutB Try.prog = true := by kernel_rfl
set_option maxRecDepth 100000 in
theorem treeSames_lifted (os : Os) (started : os.Started) (H : Type) (enc : TypeId × Value → H) :
    ReturnsInHanded {} Try.checked os 8 .any (Rows.treeSamesSpec.pre6 enc Try.prog Try.f8 Rows.treeSamesRow.domain false) (Rows.treeSamesSpec.post enc Try.prog Try.f8 false true false false) := by
  refine returnsInHanded_of_change_sized (C := Try.checked) treeSames_own started (by kernel_rfl) Try.func8
    (ChangeSpec.witness6 (enc := enc) (C := Try.checked) false ⟨#[], #[.agg #[.int .i64 0, .string ⟨#[]⟩, .int .i64 0, .int .i64 0, .string ⟨#[]⟩, .int .i64 0, .slice none 0 0, .slice none 0 0, .slice none 0 0, .slice none 0 0, .int .i64 0], .agg #[.int .i64 0, .string ⟨#[]⟩, .int .i64 0, .int .i64 0, .string ⟨#[]⟩, .int .i64 0, .slice none 0 0, .slice none 0 0, .slice none 0 0, .slice none 0 0, .int .i64 0]], []⟩ 8 (by kernel_rfl) (by kernel_rfl) (by kernel_rfl) (by kernel_rfl)) ?_
  intro W base args ds gs before hval0 hW hcnd hsz0 _
  have hval : ∀ (j : Nat) t v, Try.f8.params[j]? = some t → args[j]? = some v → Value.okWide Try.prog W .any base t v := hval0
  have hsz : (DataW.weightsEach Try.prog (Try.f8.params.toList ++ Rows.treeSamesSpec.plain.varTypes Try.prog) (ds ++ gs)).all (· ≤ reachBytes) = true := hsz0
  have hW' := hW
  obtain ⟨p, q, hA0, hV, rfl, hfz, hnd⟩ := hW
  have hA : DataW.TrodAll enc Try.prog W 0 (fun _ => true) true Try.f8.params.toList args.toList ds p := hA0
  rw [Try.params8] at hA hval hsz
  obtain ⟨rfl, rfl⟩ := trodVars_none hV
  obtain ⟨v0, v1, d0, d1, p0, p1, rfl, rfl, rfl, h0, h1⟩ := trodAll_two hA
  obtain ⟨f0, c0, s0, r0, o0, _⟩ := open_two closed05 hsz 0 rfl rfl (by decide) h0
  obtain ⟨a, rfl, hLa⟩ := shapeL_ex _ (by decide) _ _ s0
  obtain ⟨f1, c1, s1, r1, o1, _⟩ := open_two closed05 hsz 1 rfl rfl (by decide) h1
  obtain ⟨b, rfl, hLb⟩ := shapeL_ex _ (by decide) _ _ s1
  refine (law_run (TreeSames_c a b hLa hLb) (.cons (rel_agg' (by rw [Ex.cells_len]; decide) r0 o0) (.cons (rel_agg' (by rw [Ex.cells_len]; decide) r1 o1) .nil))).mono fun e W' ⟨he, hb⟩ => ?_
  subst he
  exact ⟨_, rfl, law_post (tb := 4) treeSames_laidOut (by kernel_rfl) (by kernel_rfl) Try.underlying4 rfl rfl rfl rfl hW' hb⟩
theorem treeSames_holds : Rows.TreeSamesSaid :=
  OpenClaim.holds_of_wide 8 Try.f8 rfl rfl rfl rfl rfl rfl rfl ⟨rfl, rfl, rfl, rfl, rfl⟩ rfl rfl rfl rfl rfl (by kernel_rfl) Try.func8 (by kernel_rfl)
    (of_decide_eq_true (by kernel_rfl)) (by unfold Func.isWrapper; first | (rw [if_pos (by decide +kernel)]; kernel_rfl) | (rw [if_neg (by decide +kernel)]; exact ⟨rfl, rfl⟩))
    (fun os started H enc _ => treeSames_lifted os started H enc)
#print axioms treeSames_holds
end Go.Proofs.Ytjgjnheeohfmmaa
