/- cognateref29.ins -/
import Derived.Test.YtadhakcmfkghbaaB29s
namespace Go.Proofs.Ytadhakcmfkghbaa
open Go.RowKit
theorem hasT_size (op : Int) : (hasT op).size ≤ 1000000 := by
  rcases op_cases op with rfl | rfl | rfl | rfl | rfl | rfl | rfl | rfl | rfl | rfl | rfl | rfl | rfl | rfl | rfl | h
  all_goals first | (rw [has_no h]; decide) | decide
set_option maxHeartbeats 4000000 in
set_option maxRecDepth 100000 in
theorem rins_c (i : Is) (f : Cf) (fr : Int) (c : Cd) (h1 : 1 ≤ f.sl) (h2 : f.sl ≤ 1048576) (h3 : 0 ≤ f.len) (h4 : f.len ≤ 1048576) (h5 : 0 ≤ fr) (h6 : fr ≤ 1048576) (hg : c.gl ≤ 1048576) (hli : i.Lim) : BCall Try.prog 20 [.agg i.cells, .agg f.cells, .val (.int .i64 fr), .agg c.cells] (RefP c f fr i) := by
  have HA := rightAtoms_c i.ar f c
  have HC := fun l => rightAtoms_c l f c
  have HH := Has29_c i.op
  have hhs := hasT_size i.op
  have Ja := (in_c (hasT i.op) 97 hhs).bal (has_a i.op)
  have Jb := (in_c (hasT i.op) 98 hhs).bal (has_b i.op)
  have Jn := (in_c (hasT i.op) 110 hhs).bal (has_n i.op)
  have Js := (in_c (hasT i.op) 115 hhs).bal (has_s i.op)
  have J1 := (in_c (hasT i.op) 49 hhs).bal (has_1 i.op)
  have J2 := (in_c (hasT i.op) 50 hhs).bal (has_2 i.op)
  have Jl := (in_c (hasT i.op) 108 hhs).bal (has_l i.op)
  have HT := Takes_c i.n
  have he := has_e i.op
  have hnn := opN_iff i.op
  obtain ⟨_, _, _, _, _, ⟨hlf, _⟩, hlc, _⟩ := hli
  unfold RefP FixP CapP
  generalize hAP : AtomP f c.gl = AP at *
  obtain ⟨is, fu, tx, gl, ys, no⟩ := c
  obtain ⟨fl, sl, cp⟩ := f
  obtain ⟨op, a, b, n, ar, fs, ca⟩ := i
  simp only [Is.op, Is.ar, Is.a, Is.b, Is.n, Is.fs, Is.cp, Cf.sl, Cf.len, Cd.gl, Cd.tx, Cd.fu] at *
  generalize hpA : (∀ a ∈ ar, AP a) = pA at *
  generalize takes n = tk at *
  generalize hasT op = hs at *
  generalize (opA op = true) = oA at *
  generalize (opB op = true) = oB at *
  generalize (opN op = true) = oN at *
  generalize one1 op = o1 at *
  generalize two2 op = o2 at *
  generalize lst3 op = o3 at *
  have htl : topOf op gl sl ≤ 1048576 := by unfold topOf; split <;> omega
  have ht1 : op = 10 → gl = topOf op gl sl := fun q => by unfold topOf; rw [if_pos q]
  have ht2 : ¬ op = 10 → sl = topOf op gl sl := fun q => by unfold topOf; rw [if_neg q]
  generalize topOf op gl sl = top at *
  have hla := Ato.cellss_len ar
  have hl1 := nums_len fs
  have hl2 := Ato.cellsss_len ca
  have hl3 := Cf.cellss_len fu
  have hl4 := strs_len tx
  refine ACall.enter Try.func20 rfl (by kernel_rfl) rfl (Nat.le_of_ble_eq_true rfl) ?_
  refine c_start ?_
  refine c_seq ?_
  refine c_region ?_
  refine AOps.st 4 rfl rfl rfl (op_boxc (cs' := [_, _, _, _, _, _, _]) rfl rfl rfl rfl ?_)
  refine AOps.st 5 rfl rfl rfl (op_boxc (cs' := [_, _, _]) rfl rfl rfl rfl ?_)
  refine AOps.st 7 rfl rfl rfl (op_boxc (cs' := [_, _, _, _, _, _]) rfl rfl rfl rfl ?_)
  refine AOps.st 8 rfl rfl rfl (op_assign rfl rfl ?_)
  refine AOps.nil ?_
  refine go_code ?_
  refine c_seq ?_
  refine c_region ?_
  refine AOps.st 13 rfl rfl rfl (op_fieldAddr_c rfl tf_46_0 rfl rfl ?_)
  refine AOps.st 14 rfl rfl rfl (op_load_c1 rfl ta_3 rfl rfl ?_)
  refine AOps.st 15 rfl rfl rfl (op_callp (xs := [.tmp 14]) rfl rfl (HH) (by first | exact Les.refl _ | (repeat' (first | exact Les.refl _ | refine Les.cons ?_ ?_ | exact Le.refl _ | exact Le.own _ _ _ | exact Le.nil _ | refine Le.agg ?_))) ?_)
  refine AOps.st 9 rfl rfl rfl (op_assign rfl rfl ?_)
  refine AOps.nil ?_
  refine go_code ?_
  refine c_seq ?_
  refine c_seq ?_
  refine c_bool 25 (¬ ((1 ≤ op ∧ op ≤ 15) ∧ pA)) ?_ _ _ rfl ?_
  · skip
    refine AOps.st 16 rfl rfl rfl (op_move rfl rfl ?_)
    refine AOps.st 17 rfl rfl rfl (op_seql rfl rfl rfl ?_); intro c17 h17
    refine AOps.st 18 rfl rfl rfl (op_move rfl rfl ?_)
    rcases bool_split h17 with ⟨rfl, g17⟩ | ⟨rfl, g17⟩
    · skip
      refine AOps.gt 19 rfl rfl rfl rfl rfl (op_fieldAddr_c rfl tf_46_4 rfl rfl ?_)
      refine AOps.gt 20 rfl rfl rfl rfl rfl (op_load_c1 rfl ta_42 rfl rfl ?_)
      refine AOps.gt 21 rfl rfl rfl rfl rfl (op_load_c (cs' := [_, _, _]) rfl ta_39 rfl rfl rfl ?_)
      refine AOps.gt 22 rfl rfl rfl rfl rfl (op_load_c (cs' := [_, _, _, _, _, _]) rfl ta_26 rfl rfl rfl ?_)
      refine AOps.gt 23 rfl rfl rfl rfl rfl (op_callb (xs := [.tmp 20, .tmp 21, .tmp 22]) rfl rfl (HA) (by first | exact Les.refl _ | (repeat' (first | exact Les.refl _ | refine Les.cons ?_ ?_ | exact Le.refl _ | exact Le.own _ _ _ | exact Le.nil _ | refine Le.agg ?_))) ?_); intro c23 h23
      refine AOps.gt 24 rfl rfl rfl rfl rfl (op_notc rfl rfl ?_); intro c24 h24
      try replace h24 := nott h24 h23
      refine AOps.st 25 rfl rfl rfl (op_pick rfl rfl rfl ?_)
      refine AOps.nil ?_
      refine BoolQ.mk rfl ?_ (by repeat' (first | exact SLe.wo _ _ | exact SLe.refl _ | refine SLe.fresh rfl ?_)) (by first | exact MLe.none _ | exact MLe.refl _ | (repeat' (first | exact MLe.nil | exact MLe.refl _ | refine MLe.cons _ ?_ | refine MLe.drop _ ?_)))
      first | (have q := he.1 g17; simp only [true_iff]; exact fun r => q r.1) | (have q := Classical.not_not.1 (fun r => g17 (he.2 r)); rw [h24]; simp only [q, true_and, and_self])
    · skip
      refine AOps.gf 19 rfl rfl rfl rfl rfl ?_
      refine AOps.gf 20 rfl rfl rfl rfl rfl ?_
      refine AOps.gf 21 rfl rfl rfl rfl rfl ?_
      refine AOps.gf 22 rfl rfl rfl rfl rfl ?_
      refine AOps.gf 23 rfl rfl rfl rfl rfl ?_
      refine AOps.gf 24 rfl rfl rfl rfl rfl ?_
      refine AOps.st 25 rfl rfl rfl (op_pick rfl rfl rfl ?_)
      refine AOps.nil ?_
      refine BoolQ.mk rfl ?_ (by repeat' (first | exact SLe.wo _ _ | exact SLe.refl _ | refine SLe.fresh rfl ?_)) (by first | exact MLe.none _ | exact MLe.refl _ | (repeat' (first | exact MLe.nil | exact MLe.refl _ | refine MLe.cons _ ?_ | refine MLe.drop _ ?_)))
      have q := he.1 g17; simp only [true_iff]; exact fun r => q r.1
  intro c25 h25
  refine go_code ?_
  rcases bool_split h25 with ⟨rfl, g25⟩ | ⟨rfl, g25⟩
  · refine c_cond_f rfl ?_
    refine c_skip ?_
    refine go_code ?_
    refine c_seq ?_
    obtain ⟨e1, e2⟩ := Classical.not_not.1 g25
    refine c_region ?_
    refine AOps.st 26 rfl rfl rfl (op_fieldAddr_c rfl tf_39_1 rfl rfl ?_)
    refine AOps.st 27 rfl rfl rfl (op_load_c1 rfl ta_3 rfl rfl ?_)
    refine AOps.st 10 rfl rfl rfl (op_assign rfl rfl ?_)
    refine AOps.nil ?_
    refine go_code ?_
    refine c_seq ?_
    refine c_seq ?_
    refine c_region ?_
    refine AOps.st 28 rfl rfl rfl (op_fieldAddr_c rfl tf_46_0 rfl rfl ?_)
    refine AOps.st 29 rfl rfl rfl (op_load_c1 rfl ta_3 rfl rfl ?_)
    refine AOps.st 30 rfl rfl rfl (op_eql rfl rfl rfl ?_); intro c30 h30
    refine AOps.nil ?_
    refine go_code ?_
    apply c_joinkm [0, 1, 3, 6, 10, 13, 14, 15, 16, 17, 18, 19, 20, 21, 22, 23, 24, 25, 26, 27, 28, 29, 30, 31, 32] (σ := Int) (fun zz => match zz with | tp => [(10, .val (.int .i64 tp))]) (fun zz => match zz with | tp => tp = top)
    · repeat' (first | exact Drops.nil | apply Drops.keep rfl | apply Drops.skip rfl)
    · skip
      rcases bool_split h30 with ⟨rfl, g30⟩ | ⟨rfl, g30⟩
      · refine c_cond_f rfl ?_
        refine c_skip ?_
        refine go_lp ?_
        first | exact ⟨gl, ht1 g30, (by repeat' (first | exact SLe.nil _ | refine SLe.cons rfl ?_ ?_ | exact Le.refl _ | exact Le.own _ _ _ | exact Le.nil _)), (by first | exact MLe.none _ | exact MLe.refl _ | (repeat' (first | exact MLe.nil | exact MLe.refl _ | refine MLe.cons _ ?_ | refine MLe.drop _ ?_)))⟩ | exact ⟨sl, ht2 g30, (by repeat' (first | exact SLe.nil _ | refine SLe.cons rfl ?_ ?_ | exact Le.refl _ | exact Le.own _ _ _ | exact Le.nil _)), (by first | exact MLe.none _ | exact MLe.refl _ | (repeat' (first | exact MLe.nil | exact MLe.refl _ | refine MLe.cons _ ?_ | refine MLe.drop _ ?_)))⟩
      · refine c_cond_t rfl ?_
        refine c_region ?_
        refine AOps.st 31 rfl rfl rfl (op_fieldAddr_c rfl tf_26_3 rfl rfl ?_)
        refine AOps.st 32 rfl rfl rfl (op_load_c1 rfl ta_3 rfl rfl ?_)
        refine AOps.st 10 rfl rfl rfl (op_assign rfl rfl ?_)
        refine AOps.nil ?_
        refine go_lp ?_
        first | exact ⟨gl, ht1 g30, (by repeat' (first | exact SLe.nil _ | refine SLe.cons rfl ?_ ?_ | exact Le.refl _ | exact Le.own _ _ _ | exact Le.nil _)), (by first | exact MLe.none _ | exact MLe.refl _ | (repeat' (first | exact MLe.nil | exact MLe.refl _ | refine MLe.cons _ ?_ | refine MLe.drop _ ?_)))⟩ | exact ⟨sl, ht2 g30, (by repeat' (first | exact SLe.nil _ | refine SLe.cons rfl ?_ ?_ | exact Le.refl _ | exact Le.own _ _ _ | exact Le.nil _)), (by first | exact MLe.none _ | exact MLe.refl _ | (repeat' (first | exact MLe.nil | exact MLe.refl _ | refine MLe.cons _ ?_ | refine MLe.drop _ ?_)))⟩
    rintro tp hI
    try dsimp only [List.cons_append, List.nil_append] at hI ⊢
    subst hI
    refine go_code ?_
    refine c_seq ?_
    refine c_seq ?_
    refine c_bool 80 (¬ ((oA → 0 ≤ a ∧ a < tp) ∧ (¬ oA → a = 0) ∧ (¬ oB → b = 0) ∧ (¬ oN → n = 0))) ?_ _ _ rfl ?_
    · skip
      refine AOps.st 33 rfl rfl rfl (op_move rfl rfl ?_)
      refine AOps.st 34 rfl rfl rfl (op_callb (xs := [.tmp 33, .const (.int .u8 97)]) rfl rfl (Ja) (by first | exact Les.refl _ | (repeat' (first | exact Les.refl _ | refine Les.cons ?_ ?_ | exact Le.refl _ | exact Le.own _ _ _ | exact Le.nil _ | refine Le.agg ?_))) ?_); intro c34 h34
      refine AOps.st 35 rfl rfl rfl (op_move rfl rfl ?_)
      rcases bool_split h34 with ⟨rfl, g34⟩ | ⟨rfl, g34⟩
      · skip
        refine AOps.gf 36 rfl rfl rfl rfl rfl ?_
        refine AOps.gf 37 rfl rfl rfl rfl rfl ?_
        refine AOps.gf 38 rfl rfl rfl rfl rfl ?_
        refine AOps.gf 39 rfl rfl rfl rfl rfl ?_
        refine AOps.gu 40 rfl rfl rfl rfl rfl ?_
        refine AOps.gu 41 rfl rfl rfl rfl rfl ?_
        refine AOps.gu 42 rfl rfl rfl rfl rfl ?_
        refine AOps.gu 43 rfl rfl rfl rfl rfl ?_
        refine AOps.gf 44 rfl rfl rfl rfl rfl ?_
        refine AOps.st 45 rfl rfl rfl (op_pick rfl rfl rfl ?_)
        refine AOps.st 46 rfl rfl rfl (op_move rfl rfl ?_)
        refine AOps.gt 47 rfl rfl rfl rfl rfl (op_move rfl rfl ?_)
        refine AOps.gt 48 rfl rfl rfl rfl rfl (op_callb (xs := [.tmp 47, .const (.int .u8 97)]) rfl rfl (Ja) (by first | exact Les.refl _ | (repeat' (first | exact Les.refl _ | refine Les.cons ?_ ?_ | exact Le.refl _ | exact Le.own _ _ _ | exact Le.nil _ | refine Le.agg ?_))) ?_); intro c48 h48
        refine AOps.gt 49 rfl rfl rfl rfl rfl (op_notc rfl rfl ?_); intro c49 h49
        try replace h49 := nott h49 h48
        refine AOps.gt 50 rfl rfl rfl rfl rfl (op_move rfl rfl ?_)
        rcases bool_split h49 with ⟨rfl, g49⟩ | ⟨rfl, g49⟩
        · skip
          refine AOps.gf 51 rfl rfl rfl rfl rfl ?_
          refine AOps.gf 52 rfl rfl rfl rfl rfl ?_
          refine AOps.gf 53 rfl rfl rfl rfl rfl ?_
          refine AOps.gt 54 rfl rfl rfl rfl rfl (op_pick rfl rfl rfl ?_)
          refine AOps.st 55 rfl rfl rfl (op_pick rfl rfl rfl ?_)
          refine AOps.st 56 rfl rfl rfl (op_move rfl rfl ?_)
          refine AOps.gt 57 rfl rfl rfl rfl rfl (op_move rfl rfl ?_)
          refine AOps.gt 58 rfl rfl rfl rfl rfl (op_callb (xs := [.tmp 57, .const (.int .u8 98)]) rfl rfl (Jb) (by first | exact Les.refl _ | (repeat' (first | exact Les.refl _ | refine Les.cons ?_ ?_ | exact Le.refl _ | exact Le.own _ _ _ | exact Le.nil _ | refine Le.agg ?_))) ?_); intro c58 h58
          refine AOps.gt 59 rfl rfl rfl rfl rfl (op_notc rfl rfl ?_); intro c59 h59
          try replace h59 := nott h59 h58
          refine AOps.gt 60 rfl rfl rfl rfl rfl (op_move rfl rfl ?_)
          rcases bool_split h59 with ⟨rfl, g59⟩ | ⟨rfl, g59⟩
          · skip
            refine AOps.gf 61 rfl rfl rfl rfl rfl ?_
            refine AOps.gf 62 rfl rfl rfl rfl rfl ?_
            refine AOps.gf 63 rfl rfl rfl rfl rfl ?_
            refine AOps.gt 64 rfl rfl rfl rfl rfl (op_pick rfl rfl rfl ?_)
            refine AOps.st 65 rfl rfl rfl (op_pick rfl rfl rfl ?_)
            refine AOps.st 66 rfl rfl rfl (op_move rfl rfl ?_)
            refine AOps.gt 67 rfl rfl rfl rfl rfl (op_move rfl rfl ?_)
            refine AOps.gt 68 rfl rfl rfl rfl rfl (op_callb (xs := [.tmp 67, .const (.int .u8 110)]) rfl rfl (Jn) (by first | exact Les.refl _ | (repeat' (first | exact Les.refl _ | refine Les.cons ?_ ?_ | exact Le.refl _ | exact Le.own _ _ _ | exact Le.nil _ | refine Le.agg ?_))) ?_); intro c68 h68
            refine AOps.gt 69 rfl rfl rfl rfl rfl (op_notc rfl rfl ?_); intro c69 h69
            try replace h69 := nott h69 h68
            refine AOps.gt 70 rfl rfl rfl rfl rfl (op_move rfl rfl ?_)
            rcases bool_split h69 with ⟨rfl, g69⟩ | ⟨rfl, g69⟩
            · skip
              refine AOps.gf 71 rfl rfl rfl rfl rfl ?_
              refine AOps.gf 72 rfl rfl rfl rfl rfl ?_
              refine AOps.gf 73 rfl rfl rfl rfl rfl ?_
              refine AOps.gt 74 rfl rfl rfl rfl rfl (op_pick rfl rfl rfl ?_)
              refine AOps.gt 75 rfl rfl rfl rfl rfl (op_move rfl rfl ?_)
              refine AOps.gf 76 rfl rfl rfl rfl rfl ?_
              refine AOps.gf 77 rfl rfl rfl rfl rfl ?_
              refine AOps.gf 78 rfl rfl rfl rfl rfl ?_
              refine AOps.gt 79 rfl rfl rfl rfl rfl (op_pick rfl rfl rfl ?_)
              refine AOps.st 80 rfl rfl rfl (op_pick rfl rfl rfl ?_)
              refine AOps.nil ?_
              refine BoolQ.mk rfl ?_ (by repeat' (first | exact SLe.wo _ _ | exact SLe.refl _ | refine SLe.fresh rfl ?_)) (by first | exact MLe.none _ | exact MLe.refl _ | (repeat' (first | exact MLe.nil | exact MLe.refl _ | refine MLe.cons _ ?_ | refine MLe.drop _ ?_)))
              simp_all; done
            · skip
              refine AOps.gt 71 rfl rfl rfl rfl rfl (op_move rfl rfl ?_)
              refine AOps.gt 72 rfl rfl rfl rfl rfl (op_callb (xs := [.tmp 71, .const (.int .u8 115)]) rfl rfl (Js) (by first | exact Les.refl _ | (repeat' (first | exact Les.refl _ | refine Les.cons ?_ ?_ | exact Le.refl _ | exact Le.own _ _ _ | exact Le.nil _ | refine Le.agg ?_))) ?_); intro c72 h72
              refine AOps.gt 73 rfl rfl rfl rfl rfl (op_notc rfl rfl ?_); intro c73 h73
              try replace h73 := nott h73 h72
              refine AOps.gt 74 rfl rfl rfl rfl rfl (op_pick rfl rfl rfl ?_)
              refine AOps.gt 75 rfl rfl rfl rfl rfl (op_move rfl rfl ?_)
              rcases bool_split h73 with ⟨rfl, g73⟩ | ⟨rfl, g73⟩
              · skip
                refine AOps.gf 76 rfl rfl rfl rfl rfl ?_
                refine AOps.gf 77 rfl rfl rfl rfl rfl ?_
                refine AOps.gf 78 rfl rfl rfl rfl rfl ?_
                refine AOps.gt 79 rfl rfl rfl rfl rfl (op_pick rfl rfl rfl ?_)
                refine AOps.st 80 rfl rfl rfl (op_pick rfl rfl rfl ?_)
                refine AOps.nil ?_
                refine BoolQ.mk rfl ?_ (by repeat' (first | exact SLe.wo _ _ | exact SLe.refl _ | refine SLe.fresh rfl ?_)) (by first | exact MLe.none _ | exact MLe.refl _ | (repeat' (first | exact MLe.nil | exact MLe.refl _ | refine MLe.cons _ ?_ | refine MLe.drop _ ?_)))
                simp_all; done
              · skip
                refine AOps.gt 76 rfl rfl rfl rfl rfl (op_fieldAddr_c rfl tf_46_3 rfl rfl ?_)
                refine AOps.gt 77 rfl rfl rfl rfl rfl (op_load_c1 rfl ta_2 rfl rfl ?_)
                refine AOps.gt 78 rfl rfl rfl rfl rfl (op_neq rfl rfl rfl ?_); intro c78 h78
                refine AOps.gt 79 rfl rfl rfl rfl rfl (op_pick rfl rfl rfl ?_)
                refine AOps.st 80 rfl rfl rfl (op_pick rfl rfl rfl ?_)
                refine AOps.nil ?_
                refine BoolQ.mk rfl ?_ (by repeat' (first | exact SLe.wo _ _ | exact SLe.refl _ | refine SLe.fresh rfl ?_)) (by first | exact MLe.none _ | exact MLe.refl _ | (repeat' (first | exact MLe.nil | exact MLe.refl _ | refine MLe.cons _ ?_ | refine MLe.drop _ ?_)))
                simp_all; done
          · skip
            refine AOps.gt 61 rfl rfl rfl rfl rfl (op_fieldAddr_c rfl tf_46_2 rfl rfl ?_)
            refine AOps.gt 62 rfl rfl rfl rfl rfl (op_load_c1 rfl ta_3 rfl rfl ?_)
            refine AOps.gt 63 rfl rfl rfl rfl rfl (op_neq rfl rfl rfl ?_); intro c63 h63
            refine AOps.gt 64 rfl rfl rfl rfl rfl (op_pick rfl rfl rfl ?_)
            refine AOps.st 65 rfl rfl rfl (op_pick rfl rfl rfl ?_)
            refine AOps.st 66 rfl rfl rfl (op_move rfl rfl ?_)
            rcases bool_split h63 with ⟨rfl, g63⟩ | ⟨rfl, g63⟩
            · skip
              refine AOps.gt 67 rfl rfl rfl rfl rfl (op_move rfl rfl ?_)
              refine AOps.gt 68 rfl rfl rfl rfl rfl (op_callb (xs := [.tmp 67, .const (.int .u8 110)]) rfl rfl (Jn) (by first | exact Les.refl _ | (repeat' (first | exact Les.refl _ | refine Les.cons ?_ ?_ | exact Le.refl _ | exact Le.own _ _ _ | exact Le.nil _ | refine Le.agg ?_))) ?_); intro c68 h68
              refine AOps.gt 69 rfl rfl rfl rfl rfl (op_notc rfl rfl ?_); intro c69 h69
              try replace h69 := nott h69 h68
              refine AOps.gt 70 rfl rfl rfl rfl rfl (op_move rfl rfl ?_)
              rcases bool_split h69 with ⟨rfl, g69⟩ | ⟨rfl, g69⟩
              · skip
                refine AOps.gf 71 rfl rfl rfl rfl rfl ?_
                refine AOps.gf 72 rfl rfl rfl rfl rfl ?_
                refine AOps.gf 73 rfl rfl rfl rfl rfl ?_
                refine AOps.gt 74 rfl rfl rfl rfl rfl (op_pick rfl rfl rfl ?_)
                refine AOps.gt 75 rfl rfl rfl rfl rfl (op_move rfl rfl ?_)
                refine AOps.gf 76 rfl rfl rfl rfl rfl ?_
                refine AOps.gf 77 rfl rfl rfl rfl rfl ?_
                refine AOps.gf 78 rfl rfl rfl rfl rfl ?_
                refine AOps.gt 79 rfl rfl rfl rfl rfl (op_pick rfl rfl rfl ?_)
                refine AOps.st 80 rfl rfl rfl (op_pick rfl rfl rfl ?_)
                refine AOps.nil ?_
                refine BoolQ.mk rfl ?_ (by repeat' (first | exact SLe.wo _ _ | exact SLe.refl _ | refine SLe.fresh rfl ?_)) (by first | exact MLe.none _ | exact MLe.refl _ | (repeat' (first | exact MLe.nil | exact MLe.refl _ | refine MLe.cons _ ?_ | refine MLe.drop _ ?_)))
                simp_all; done
              · skip
                refine AOps.gt 71 rfl rfl rfl rfl rfl (op_move rfl rfl ?_)
                refine AOps.gt 72 rfl rfl rfl rfl rfl (op_callb (xs := [.tmp 71, .const (.int .u8 115)]) rfl rfl (Js) (by first | exact Les.refl _ | (repeat' (first | exact Les.refl _ | refine Les.cons ?_ ?_ | exact Le.refl _ | exact Le.own _ _ _ | exact Le.nil _ | refine Le.agg ?_))) ?_); intro c72 h72
                refine AOps.gt 73 rfl rfl rfl rfl rfl (op_notc rfl rfl ?_); intro c73 h73
                try replace h73 := nott h73 h72
                refine AOps.gt 74 rfl rfl rfl rfl rfl (op_pick rfl rfl rfl ?_)
                refine AOps.gt 75 rfl rfl rfl rfl rfl (op_move rfl rfl ?_)
                rcases bool_split h73 with ⟨rfl, g73⟩ | ⟨rfl, g73⟩
                · skip
                  refine AOps.gf 76 rfl rfl rfl rfl rfl ?_
                  refine AOps.gf 77 rfl rfl rfl rfl rfl ?_
                  refine AOps.gf 78 rfl rfl rfl rfl rfl ?_
                  refine AOps.gt 79 rfl rfl rfl rfl rfl (op_pick rfl rfl rfl ?_)
                  refine AOps.st 80 rfl rfl rfl (op_pick rfl rfl rfl ?_)
                  refine AOps.nil ?_
                  refine BoolQ.mk rfl ?_ (by repeat' (first | exact SLe.wo _ _ | exact SLe.refl _ | refine SLe.fresh rfl ?_)) (by first | exact MLe.none _ | exact MLe.refl _ | (repeat' (first | exact MLe.nil | exact MLe.refl _ | refine MLe.cons _ ?_ | refine MLe.drop _ ?_)))
                  simp_all; done
                · skip
                  refine AOps.gt 76 rfl rfl rfl rfl rfl (op_fieldAddr_c rfl tf_46_3 rfl rfl ?_)
                  refine AOps.gt 77 rfl rfl rfl rfl rfl (op_load_c1 rfl ta_2 rfl rfl ?_)
                  refine AOps.gt 78 rfl rfl rfl rfl rfl (op_neq rfl rfl rfl ?_); intro c78 h78
                  refine AOps.gt 79 rfl rfl rfl rfl rfl (op_pick rfl rfl rfl ?_)
                  refine AOps.st 80 rfl rfl rfl (op_pick rfl rfl rfl ?_)
                  refine AOps.nil ?_
                  refine BoolQ.mk rfl ?_ (by repeat' (first | exact SLe.wo _ _ | exact SLe.refl _ | refine SLe.fresh rfl ?_)) (by first | exact MLe.none _ | exact MLe.refl _ | (repeat' (first | exact MLe.nil | exact MLe.refl _ | refine MLe.cons _ ?_ | refine MLe.drop _ ?_)))
                  simp_all; done
            · skip
              refine AOps.gf 67 rfl rfl rfl rfl rfl ?_
              refine AOps.gf 68 rfl rfl rfl rfl rfl ?_
              refine AOps.gf 69 rfl rfl rfl rfl rfl ?_
              refine AOps.gf 70 rfl rfl rfl rfl rfl ?_
              refine AOps.gu 71 rfl rfl rfl rfl rfl ?_
              refine AOps.gu 72 rfl rfl rfl rfl rfl ?_
              refine AOps.gu 73 rfl rfl rfl rfl rfl ?_
              refine AOps.gf 74 rfl rfl rfl rfl rfl ?_
              refine AOps.gf 75 rfl rfl rfl rfl rfl ?_
              refine AOps.gu 76 rfl rfl rfl rfl rfl ?_
              refine AOps.gu 77 rfl rfl rfl rfl rfl ?_
              refine AOps.gu 78 rfl rfl rfl rfl rfl ?_
              refine AOps.gf 79 rfl rfl rfl rfl rfl ?_
              refine AOps.st 80 rfl rfl rfl (op_pick rfl rfl rfl ?_)
              refine AOps.nil ?_
              refine BoolQ.mk rfl ?_ (by repeat' (first | exact SLe.wo _ _ | exact SLe.refl _ | refine SLe.fresh rfl ?_)) (by first | exact MLe.none _ | exact MLe.refl _ | (repeat' (first | exact MLe.nil | exact MLe.refl _ | refine MLe.cons _ ?_ | refine MLe.drop _ ?_)))
              simp_all; done
        · skip
          refine AOps.gt 51 rfl rfl rfl rfl rfl (op_fieldAddr_c rfl tf_46_1 rfl rfl ?_)
          refine AOps.gt 52 rfl rfl rfl rfl rfl (op_load_c1 rfl ta_3 rfl rfl ?_)
          refine AOps.gt 53 rfl rfl rfl rfl rfl (op_neq rfl rfl rfl ?_); intro c53 h53
          refine AOps.gt 54 rfl rfl rfl rfl rfl (op_pick rfl rfl rfl ?_)
          refine AOps.st 55 rfl rfl rfl (op_pick rfl rfl rfl ?_)
          refine AOps.st 56 rfl rfl rfl (op_move rfl rfl ?_)
          rcases bool_split h53 with ⟨rfl, g53⟩ | ⟨rfl, g53⟩
          · skip
            refine AOps.gt 57 rfl rfl rfl rfl rfl (op_move rfl rfl ?_)
            refine AOps.gt 58 rfl rfl rfl rfl rfl (op_callb (xs := [.tmp 57, .const (.int .u8 98)]) rfl rfl (Jb) (by first | exact Les.refl _ | (repeat' (first | exact Les.refl _ | refine Les.cons ?_ ?_ | exact Le.refl _ | exact Le.own _ _ _ | exact Le.nil _ | refine Le.agg ?_))) ?_); intro c58 h58
            refine AOps.gt 59 rfl rfl rfl rfl rfl (op_notc rfl rfl ?_); intro c59 h59
            try replace h59 := nott h59 h58
            refine AOps.gt 60 rfl rfl rfl rfl rfl (op_move rfl rfl ?_)
            rcases bool_split h59 with ⟨rfl, g59⟩ | ⟨rfl, g59⟩
            · skip
              refine AOps.gf 61 rfl rfl rfl rfl rfl ?_
              refine AOps.gf 62 rfl rfl rfl rfl rfl ?_
              refine AOps.gf 63 rfl rfl rfl rfl rfl ?_
              refine AOps.gt 64 rfl rfl rfl rfl rfl (op_pick rfl rfl rfl ?_)
              refine AOps.st 65 rfl rfl rfl (op_pick rfl rfl rfl ?_)
              refine AOps.st 66 rfl rfl rfl (op_move rfl rfl ?_)
              refine AOps.gt 67 rfl rfl rfl rfl rfl (op_move rfl rfl ?_)
              refine AOps.gt 68 rfl rfl rfl rfl rfl (op_callb (xs := [.tmp 67, .const (.int .u8 110)]) rfl rfl (Jn) (by first | exact Les.refl _ | (repeat' (first | exact Les.refl _ | refine Les.cons ?_ ?_ | exact Le.refl _ | exact Le.own _ _ _ | exact Le.nil _ | refine Le.agg ?_))) ?_); intro c68 h68
              refine AOps.gt 69 rfl rfl rfl rfl rfl (op_notc rfl rfl ?_); intro c69 h69
              try replace h69 := nott h69 h68
              refine AOps.gt 70 rfl rfl rfl rfl rfl (op_move rfl rfl ?_)
              rcases bool_split h69 with ⟨rfl, g69⟩ | ⟨rfl, g69⟩
              · skip
                refine AOps.gf 71 rfl rfl rfl rfl rfl ?_
                refine AOps.gf 72 rfl rfl rfl rfl rfl ?_
                refine AOps.gf 73 rfl rfl rfl rfl rfl ?_
                refine AOps.gt 74 rfl rfl rfl rfl rfl (op_pick rfl rfl rfl ?_)
                refine AOps.gt 75 rfl rfl rfl rfl rfl (op_move rfl rfl ?_)
                refine AOps.gf 76 rfl rfl rfl rfl rfl ?_
                refine AOps.gf 77 rfl rfl rfl rfl rfl ?_
                refine AOps.gf 78 rfl rfl rfl rfl rfl ?_
                refine AOps.gt 79 rfl rfl rfl rfl rfl (op_pick rfl rfl rfl ?_)
                refine AOps.st 80 rfl rfl rfl (op_pick rfl rfl rfl ?_)
                refine AOps.nil ?_
                refine BoolQ.mk rfl ?_ (by repeat' (first | exact SLe.wo _ _ | exact SLe.refl _ | refine SLe.fresh rfl ?_)) (by first | exact MLe.none _ | exact MLe.refl _ | (repeat' (first | exact MLe.nil | exact MLe.refl _ | refine MLe.cons _ ?_ | refine MLe.drop _ ?_)))
                simp_all; done
              · skip
                refine AOps.gt 71 rfl rfl rfl rfl rfl (op_move rfl rfl ?_)
                refine AOps.gt 72 rfl rfl rfl rfl rfl (op_callb (xs := [.tmp 71, .const (.int .u8 115)]) rfl rfl (Js) (by first | exact Les.refl _ | (repeat' (first | exact Les.refl _ | refine Les.cons ?_ ?_ | exact Le.refl _ | exact Le.own _ _ _ | exact Le.nil _ | refine Le.agg ?_))) ?_); intro c72 h72
                refine AOps.gt 73 rfl rfl rfl rfl rfl (op_notc rfl rfl ?_); intro c73 h73
                try replace h73 := nott h73 h72
                refine AOps.gt 74 rfl rfl rfl rfl rfl (op_pick rfl rfl rfl ?_)
                refine AOps.gt 75 rfl rfl rfl rfl rfl (op_move rfl rfl ?_)
                rcases bool_split h73 with ⟨rfl, g73⟩ | ⟨rfl, g73⟩
                · skip
                  refine AOps.gf 76 rfl rfl rfl rfl rfl ?_
                  refine AOps.gf 77 rfl rfl rfl rfl rfl ?_
                  refine AOps.gf 78 rfl rfl rfl rfl rfl ?_
                  refine AOps.gt 79 rfl rfl rfl rfl rfl (op_pick rfl rfl rfl ?_)
                  refine AOps.st 80 rfl rfl rfl (op_pick rfl rfl rfl ?_)
                  refine AOps.nil ?_
                  refine BoolQ.mk rfl ?_ (by repeat' (first | exact SLe.wo _ _ | exact SLe.refl _ | refine SLe.fresh rfl ?_)) (by first | exact MLe.none _ | exact MLe.refl _ | (repeat' (first | exact MLe.nil | exact MLe.refl _ | refine MLe.cons _ ?_ | refine MLe.drop _ ?_)))
                  simp_all; done
                · skip
                  refine AOps.gt 76 rfl rfl rfl rfl rfl (op_fieldAddr_c rfl tf_46_3 rfl rfl ?_)
                  refine AOps.gt 77 rfl rfl rfl rfl rfl (op_load_c1 rfl ta_2 rfl rfl ?_)
                  refine AOps.gt 78 rfl rfl rfl rfl rfl (op_neq rfl rfl rfl ?_); intro c78 h78
                  refine AOps.gt 79 rfl rfl rfl rfl rfl (op_pick rfl rfl rfl ?_)
                  refine AOps.st 80 rfl rfl rfl (op_pick rfl rfl rfl ?_)
                  refine AOps.nil ?_
                  refine BoolQ.mk rfl ?_ (by repeat' (first | exact SLe.wo _ _ | exact SLe.refl _ | refine SLe.fresh rfl ?_)) (by first | exact MLe.none _ | exact MLe.refl _ | (repeat' (first | exact MLe.nil | exact MLe.refl _ | refine MLe.cons _ ?_ | refine MLe.drop _ ?_)))
                  simp_all; done
            · skip
              refine AOps.gt 61 rfl rfl rfl rfl rfl (op_fieldAddr_c rfl tf_46_2 rfl rfl ?_)
              refine AOps.gt 62 rfl rfl rfl rfl rfl (op_load_c1 rfl ta_3 rfl rfl ?_)
              refine AOps.gt 63 rfl rfl rfl rfl rfl (op_neq rfl rfl rfl ?_); intro c63 h63
              refine AOps.gt 64 rfl rfl rfl rfl rfl (op_pick rfl rfl rfl ?_)
              refine AOps.st 65 rfl rfl rfl (op_pick rfl rfl rfl ?_)
              refine AOps.st 66 rfl rfl rfl (op_move rfl rfl ?_)
              rcases bool_split h63 with ⟨rfl, g63⟩ | ⟨rfl, g63⟩
              · skip
                refine AOps.gt 67 rfl rfl rfl rfl rfl (op_move rfl rfl ?_)
                refine AOps.gt 68 rfl rfl rfl rfl rfl (op_callb (xs := [.tmp 67, .const (.int .u8 110)]) rfl rfl (Jn) (by first | exact Les.refl _ | (repeat' (first | exact Les.refl _ | refine Les.cons ?_ ?_ | exact Le.refl _ | exact Le.own _ _ _ | exact Le.nil _ | refine Le.agg ?_))) ?_); intro c68 h68
                refine AOps.gt 69 rfl rfl rfl rfl rfl (op_notc rfl rfl ?_); intro c69 h69
                try replace h69 := nott h69 h68
                refine AOps.gt 70 rfl rfl rfl rfl rfl (op_move rfl rfl ?_)
                rcases bool_split h69 with ⟨rfl, g69⟩ | ⟨rfl, g69⟩
                · skip
                  refine AOps.gf 71 rfl rfl rfl rfl rfl ?_
                  refine AOps.gf 72 rfl rfl rfl rfl rfl ?_
                  refine AOps.gf 73 rfl rfl rfl rfl rfl ?_
                  refine AOps.gt 74 rfl rfl rfl rfl rfl (op_pick rfl rfl rfl ?_)
                  refine AOps.gt 75 rfl rfl rfl rfl rfl (op_move rfl rfl ?_)
                  refine AOps.gf 76 rfl rfl rfl rfl rfl ?_
                  refine AOps.gf 77 rfl rfl rfl rfl rfl ?_
                  refine AOps.gf 78 rfl rfl rfl rfl rfl ?_
                  refine AOps.gt 79 rfl rfl rfl rfl rfl (op_pick rfl rfl rfl ?_)
                  refine AOps.st 80 rfl rfl rfl (op_pick rfl rfl rfl ?_)
                  refine AOps.nil ?_
                  refine BoolQ.mk rfl ?_ (by repeat' (first | exact SLe.wo _ _ | exact SLe.refl _ | refine SLe.fresh rfl ?_)) (by first | exact MLe.none _ | exact MLe.refl _ | (repeat' (first | exact MLe.nil | exact MLe.refl _ | refine MLe.cons _ ?_ | refine MLe.drop _ ?_)))
                  simp_all; done
                · skip
                  refine AOps.gt 71 rfl rfl rfl rfl rfl (op_move rfl rfl ?_)
                  refine AOps.gt 72 rfl rfl rfl rfl rfl (op_callb (xs := [.tmp 71, .const (.int .u8 115)]) rfl rfl (Js) (by first | exact Les.refl _ | (repeat' (first | exact Les.refl _ | refine Les.cons ?_ ?_ | exact Le.refl _ | exact Le.own _ _ _ | exact Le.nil _ | refine Le.agg ?_))) ?_); intro c72 h72
                  refine AOps.gt 73 rfl rfl rfl rfl rfl (op_notc rfl rfl ?_); intro c73 h73
                  try replace h73 := nott h73 h72
                  refine AOps.gt 74 rfl rfl rfl rfl rfl (op_pick rfl rfl rfl ?_)
                  refine AOps.gt 75 rfl rfl rfl rfl rfl (op_move rfl rfl ?_)
                  rcases bool_split h73 with ⟨rfl, g73⟩ | ⟨rfl, g73⟩
                  · skip
                    refine AOps.gf 76 rfl rfl rfl rfl rfl ?_
                    refine AOps.gf 77 rfl rfl rfl rfl rfl ?_
                    refine AOps.gf 78 rfl rfl rfl rfl rfl ?_
                    refine AOps.gt 79 rfl rfl rfl rfl rfl (op_pick rfl rfl rfl ?_)
                    refine AOps.st 80 rfl rfl rfl (op_pick rfl rfl rfl ?_)
                    refine AOps.nil ?_
                    refine BoolQ.mk rfl ?_ (by repeat' (first | exact SLe.wo _ _ | exact SLe.refl _ | refine SLe.fresh rfl ?_)) (by first | exact MLe.none _ | exact MLe.refl _ | (repeat' (first | exact MLe.nil | exact MLe.refl _ | refine MLe.cons _ ?_ | refine MLe.drop _ ?_)))
                    simp_all; done
                  · skip
                    refine AOps.gt 76 rfl rfl rfl rfl rfl (op_fieldAddr_c rfl tf_46_3 rfl rfl ?_)
                    refine AOps.gt 77 rfl rfl rfl rfl rfl (op_load_c1 rfl ta_2 rfl rfl ?_)
                    refine AOps.gt 78 rfl rfl rfl rfl rfl (op_neq rfl rfl rfl ?_); intro c78 h78
                    refine AOps.gt 79 rfl rfl rfl rfl rfl (op_pick rfl rfl rfl ?_)
                    refine AOps.st 80 rfl rfl rfl (op_pick rfl rfl rfl ?_)
                    refine AOps.nil ?_
                    refine BoolQ.mk rfl ?_ (by repeat' (first | exact SLe.wo _ _ | exact SLe.refl _ | refine SLe.fresh rfl ?_)) (by first | exact MLe.none _ | exact MLe.refl _ | (repeat' (first | exact MLe.nil | exact MLe.refl _ | refine MLe.cons _ ?_ | refine MLe.drop _ ?_)))
                    simp_all; done
              · skip
                refine AOps.gf 67 rfl rfl rfl rfl rfl ?_
                refine AOps.gf 68 rfl rfl rfl rfl rfl ?_
                refine AOps.gf 69 rfl rfl rfl rfl rfl ?_
                refine AOps.gf 70 rfl rfl rfl rfl rfl ?_
                refine AOps.gu 71 rfl rfl rfl rfl rfl ?_
                refine AOps.gu 72 rfl rfl rfl rfl rfl ?_
                refine AOps.gu 73 rfl rfl rfl rfl rfl ?_
                refine AOps.gf 74 rfl rfl rfl rfl rfl ?_
                refine AOps.gf 75 rfl rfl rfl rfl rfl ?_
                refine AOps.gu 76 rfl rfl rfl rfl rfl ?_
                refine AOps.gu 77 rfl rfl rfl rfl rfl ?_
                refine AOps.gu 78 rfl rfl rfl rfl rfl ?_
                refine AOps.gf 79 rfl rfl rfl rfl rfl ?_
                refine AOps.st 80 rfl rfl rfl (op_pick rfl rfl rfl ?_)
                refine AOps.nil ?_
                refine BoolQ.mk rfl ?_ (by repeat' (first | exact SLe.wo _ _ | exact SLe.refl _ | refine SLe.fresh rfl ?_)) (by first | exact MLe.none _ | exact MLe.refl _ | (repeat' (first | exact MLe.nil | exact MLe.refl _ | refine MLe.cons _ ?_ | refine MLe.drop _ ?_)))
                simp_all; done
          · skip
            refine AOps.gf 57 rfl rfl rfl rfl rfl ?_
            refine AOps.gf 58 rfl rfl rfl rfl rfl ?_
            refine AOps.gf 59 rfl rfl rfl rfl rfl ?_
            refine AOps.gf 60 rfl rfl rfl rfl rfl ?_
            refine AOps.gu 61 rfl rfl rfl rfl rfl ?_
            refine AOps.gu 62 rfl rfl rfl rfl rfl ?_
            refine AOps.gu 63 rfl rfl rfl rfl rfl ?_
            refine AOps.gf 64 rfl rfl rfl rfl rfl ?_
            refine AOps.st 65 rfl rfl rfl (op_pick rfl rfl rfl ?_)
            refine AOps.st 66 rfl rfl rfl (op_move rfl rfl ?_)
            refine AOps.gf 67 rfl rfl rfl rfl rfl ?_
            refine AOps.gf 68 rfl rfl rfl rfl rfl ?_
            refine AOps.gf 69 rfl rfl rfl rfl rfl ?_
            refine AOps.gf 70 rfl rfl rfl rfl rfl ?_
            refine AOps.gu 71 rfl rfl rfl rfl rfl ?_
            refine AOps.gu 72 rfl rfl rfl rfl rfl ?_
            refine AOps.gu 73 rfl rfl rfl rfl rfl ?_
            refine AOps.gf 74 rfl rfl rfl rfl rfl ?_
            refine AOps.gf 75 rfl rfl rfl rfl rfl ?_
            refine AOps.gu 76 rfl rfl rfl rfl rfl ?_
            refine AOps.gu 77 rfl rfl rfl rfl rfl ?_
            refine AOps.gu 78 rfl rfl rfl rfl rfl ?_
            refine AOps.gf 79 rfl rfl rfl rfl rfl ?_
            refine AOps.st 80 rfl rfl rfl (op_pick rfl rfl rfl ?_)
            refine AOps.nil ?_
            refine BoolQ.mk rfl ?_ (by repeat' (first | exact SLe.wo _ _ | exact SLe.refl _ | refine SLe.fresh rfl ?_)) (by first | exact MLe.none _ | exact MLe.refl _ | (repeat' (first | exact MLe.nil | exact MLe.refl _ | refine MLe.cons _ ?_ | refine MLe.drop _ ?_)))
            simp_all; done
      · skip
        refine AOps.gt 36 rfl rfl rfl rfl rfl (op_fieldAddr_c rfl tf_46_1 rfl rfl ?_)
        refine AOps.gt 37 rfl rfl rfl rfl rfl (op_load_c1 rfl ta_3 rfl rfl ?_)
        refine AOps.gt 38 rfl rfl rfl rfl rfl (op_lss rfl rfl rfl ?_); intro c38 h38
        refine AOps.gt 39 rfl rfl rfl rfl rfl (op_move rfl rfl ?_)
        rcases bool_split h38 with ⟨rfl, g38⟩ | ⟨rfl, g38⟩
        · skip
          refine AOps.gt 40 rfl rfl rfl rfl rfl (op_fieldAddr_c rfl tf_46_1 rfl rfl ?_)
          refine AOps.gt 41 rfl rfl rfl rfl rfl (op_load_c1 rfl ta_3 rfl rfl ?_)
          refine AOps.gt 42 rfl rfl rfl rfl rfl (op_move rfl rfl ?_)
          refine AOps.gt 43 rfl rfl rfl rfl rfl (op_geq rfl rfl rfl ?_); intro c43 h43
          refine AOps.gt 44 rfl rfl rfl rfl rfl (op_pick rfl rfl rfl ?_)
          refine AOps.st 45 rfl rfl rfl (op_pick rfl rfl rfl ?_)
          refine AOps.st 46 rfl rfl rfl (op_move rfl rfl ?_)
          rcases bool_split h43 with ⟨rfl, g43⟩ | ⟨rfl, g43⟩
          · skip
            refine AOps.gt 47 rfl rfl rfl rfl rfl (op_move rfl rfl ?_)
            refine AOps.gt 48 rfl rfl rfl rfl rfl (op_callb (xs := [.tmp 47, .const (.int .u8 97)]) rfl rfl (Ja) (by first | exact Les.refl _ | (repeat' (first | exact Les.refl _ | refine Les.cons ?_ ?_ | exact Le.refl _ | exact Le.own _ _ _ | exact Le.nil _ | refine Le.agg ?_))) ?_); intro c48 h48
            refine AOps.gt 49 rfl rfl rfl rfl rfl (op_notc rfl rfl ?_); intro c49 h49
            try replace h49 := nott h49 h48
            refine AOps.gt 50 rfl rfl rfl rfl rfl (op_move rfl rfl ?_)
            rcases bool_split h49 with ⟨rfl, g49⟩ | ⟨rfl, g49⟩
            · skip
              refine AOps.gf 51 rfl rfl rfl rfl rfl ?_
              refine AOps.gf 52 rfl rfl rfl rfl rfl ?_
              refine AOps.gf 53 rfl rfl rfl rfl rfl ?_
              refine AOps.gt 54 rfl rfl rfl rfl rfl (op_pick rfl rfl rfl ?_)
              refine AOps.st 55 rfl rfl rfl (op_pick rfl rfl rfl ?_)
              refine AOps.st 56 rfl rfl rfl (op_move rfl rfl ?_)
              refine AOps.gt 57 rfl rfl rfl rfl rfl (op_move rfl rfl ?_)
              refine AOps.gt 58 rfl rfl rfl rfl rfl (op_callb (xs := [.tmp 57, .const (.int .u8 98)]) rfl rfl (Jb) (by first | exact Les.refl _ | (repeat' (first | exact Les.refl _ | refine Les.cons ?_ ?_ | exact Le.refl _ | exact Le.own _ _ _ | exact Le.nil _ | refine Le.agg ?_))) ?_); intro c58 h58
              refine AOps.gt 59 rfl rfl rfl rfl rfl (op_notc rfl rfl ?_); intro c59 h59
              try replace h59 := nott h59 h58
              refine AOps.gt 60 rfl rfl rfl rfl rfl (op_move rfl rfl ?_)
              rcases bool_split h59 with ⟨rfl, g59⟩ | ⟨rfl, g59⟩
              · skip
                refine AOps.gf 61 rfl rfl rfl rfl rfl ?_
                refine AOps.gf 62 rfl rfl rfl rfl rfl ?_
                refine AOps.gf 63 rfl rfl rfl rfl rfl ?_
                refine AOps.gt 64 rfl rfl rfl rfl rfl (op_pick rfl rfl rfl ?_)
                refine AOps.st 65 rfl rfl rfl (op_pick rfl rfl rfl ?_)
                refine AOps.st 66 rfl rfl rfl (op_move rfl rfl ?_)
                refine AOps.gt 67 rfl rfl rfl rfl rfl (op_move rfl rfl ?_)
                refine AOps.gt 68 rfl rfl rfl rfl rfl (op_callb (xs := [.tmp 67, .const (.int .u8 110)]) rfl rfl (Jn) (by first | exact Les.refl _ | (repeat' (first | exact Les.refl _ | refine Les.cons ?_ ?_ | exact Le.refl _ | exact Le.own _ _ _ | exact Le.nil _ | refine Le.agg ?_))) ?_); intro c68 h68
                refine AOps.gt 69 rfl rfl rfl rfl rfl (op_notc rfl rfl ?_); intro c69 h69
                try replace h69 := nott h69 h68
                refine AOps.gt 70 rfl rfl rfl rfl rfl (op_move rfl rfl ?_)
                rcases bool_split h69 with ⟨rfl, g69⟩ | ⟨rfl, g69⟩
                · skip
                  refine AOps.gf 71 rfl rfl rfl rfl rfl ?_
                  refine AOps.gf 72 rfl rfl rfl rfl rfl ?_
                  refine AOps.gf 73 rfl rfl rfl rfl rfl ?_
                  refine AOps.gt 74 rfl rfl rfl rfl rfl (op_pick rfl rfl rfl ?_)
                  refine AOps.gt 75 rfl rfl rfl rfl rfl (op_move rfl rfl ?_)
                  refine AOps.gf 76 rfl rfl rfl rfl rfl ?_
                  refine AOps.gf 77 rfl rfl rfl rfl rfl ?_
                  refine AOps.gf 78 rfl rfl rfl rfl rfl ?_
                  refine AOps.gt 79 rfl rfl rfl rfl rfl (op_pick rfl rfl rfl ?_)
                  refine AOps.st 80 rfl rfl rfl (op_pick rfl rfl rfl ?_)
                  refine AOps.nil ?_
                  refine BoolQ.mk rfl ?_ (by repeat' (first | exact SLe.wo _ _ | exact SLe.refl _ | refine SLe.fresh rfl ?_)) (by first | exact MLe.none _ | exact MLe.refl _ | (repeat' (first | exact MLe.nil | exact MLe.refl _ | refine MLe.cons _ ?_ | refine MLe.drop _ ?_)))
                  simp_all; done
                · skip
                  refine AOps.gt 71 rfl rfl rfl rfl rfl (op_move rfl rfl ?_)
                  refine AOps.gt 72 rfl rfl rfl rfl rfl (op_callb (xs := [.tmp 71, .const (.int .u8 115)]) rfl rfl (Js) (by first | exact Les.refl _ | (repeat' (first | exact Les.refl _ | refine Les.cons ?_ ?_ | exact Le.refl _ | exact Le.own _ _ _ | exact Le.nil _ | refine Le.agg ?_))) ?_); intro c72 h72
                  refine AOps.gt 73 rfl rfl rfl rfl rfl (op_notc rfl rfl ?_); intro c73 h73
                  try replace h73 := nott h73 h72
                  refine AOps.gt 74 rfl rfl rfl rfl rfl (op_pick rfl rfl rfl ?_)
                  refine AOps.gt 75 rfl rfl rfl rfl rfl (op_move rfl rfl ?_)
                  rcases bool_split h73 with ⟨rfl, g73⟩ | ⟨rfl, g73⟩
                  · skip
                    refine AOps.gf 76 rfl rfl rfl rfl rfl ?_
                    refine AOps.gf 77 rfl rfl rfl rfl rfl ?_
                    refine AOps.gf 78 rfl rfl rfl rfl rfl ?_
                    refine AOps.gt 79 rfl rfl rfl rfl rfl (op_pick rfl rfl rfl ?_)
                    refine AOps.st 80 rfl rfl rfl (op_pick rfl rfl rfl ?_)
                    refine AOps.nil ?_
                    refine BoolQ.mk rfl ?_ (by repeat' (first | exact SLe.wo _ _ | exact SLe.refl _ | refine SLe.fresh rfl ?_)) (by first | exact MLe.none _ | exact MLe.refl _ | (repeat' (first | exact MLe.nil | exact MLe.refl _ | refine MLe.cons _ ?_ | refine MLe.drop _ ?_)))
                    simp_all; done
                  · skip
                    refine AOps.gt 76 rfl rfl rfl rfl rfl (op_fieldAddr_c rfl tf_46_3 rfl rfl ?_)
                    refine AOps.gt 77 rfl rfl rfl rfl rfl (op_load_c1 rfl ta_2 rfl rfl ?_)
                    refine AOps.gt 78 rfl rfl rfl rfl rfl (op_neq rfl rfl rfl ?_); intro c78 h78
                    refine AOps.gt 79 rfl rfl rfl rfl rfl (op_pick rfl rfl rfl ?_)
                    refine AOps.st 80 rfl rfl rfl (op_pick rfl rfl rfl ?_)
                    refine AOps.nil ?_
                    refine BoolQ.mk rfl ?_ (by repeat' (first | exact SLe.wo _ _ | exact SLe.refl _ | refine SLe.fresh rfl ?_)) (by first | exact MLe.none _ | exact MLe.refl _ | (repeat' (first | exact MLe.nil | exact MLe.refl _ | refine MLe.cons _ ?_ | refine MLe.drop _ ?_)))
                    simp_all; done
              · skip
                refine AOps.gt 61 rfl rfl rfl rfl rfl (op_fieldAddr_c rfl tf_46_2 rfl rfl ?_)
                refine AOps.gt 62 rfl rfl rfl rfl rfl (op_load_c1 rfl ta_3 rfl rfl ?_)
                refine AOps.gt 63 rfl rfl rfl rfl rfl (op_neq rfl rfl rfl ?_); intro c63 h63
                refine AOps.gt 64 rfl rfl rfl rfl rfl (op_pick rfl rfl rfl ?_)
                refine AOps.st 65 rfl rfl rfl (op_pick rfl rfl rfl ?_)
                refine AOps.st 66 rfl rfl rfl (op_move rfl rfl ?_)
                rcases bool_split h63 with ⟨rfl, g63⟩ | ⟨rfl, g63⟩
                · skip
                  refine AOps.gt 67 rfl rfl rfl rfl rfl (op_move rfl rfl ?_)
                  refine AOps.gt 68 rfl rfl rfl rfl rfl (op_callb (xs := [.tmp 67, .const (.int .u8 110)]) rfl rfl (Jn) (by first | exact Les.refl _ | (repeat' (first | exact Les.refl _ | refine Les.cons ?_ ?_ | exact Le.refl _ | exact Le.own _ _ _ | exact Le.nil _ | refine Le.agg ?_))) ?_); intro c68 h68
                  refine AOps.gt 69 rfl rfl rfl rfl rfl (op_notc rfl rfl ?_); intro c69 h69
                  try replace h69 := nott h69 h68
                  refine AOps.gt 70 rfl rfl rfl rfl rfl (op_move rfl rfl ?_)
                  rcases bool_split h69 with ⟨rfl, g69⟩ | ⟨rfl, g69⟩
                  · skip
                    refine AOps.gf 71 rfl rfl rfl rfl rfl ?_
                    refine AOps.gf 72 rfl rfl rfl rfl rfl ?_
                    refine AOps.gf 73 rfl rfl rfl rfl rfl ?_
                    refine AOps.gt 74 rfl rfl rfl rfl rfl (op_pick rfl rfl rfl ?_)
                    refine AOps.gt 75 rfl rfl rfl rfl rfl (op_move rfl rfl ?_)
                    refine AOps.gf 76 rfl rfl rfl rfl rfl ?_
                    refine AOps.gf 77 rfl rfl rfl rfl rfl ?_
                    refine AOps.gf 78 rfl rfl rfl rfl rfl ?_
                    refine AOps.gt 79 rfl rfl rfl rfl rfl (op_pick rfl rfl rfl ?_)
                    refine AOps.st 80 rfl rfl rfl (op_pick rfl rfl rfl ?_)
                    refine AOps.nil ?_
                    refine BoolQ.mk rfl ?_ (by repeat' (first | exact SLe.wo _ _ | exact SLe.refl _ | refine SLe.fresh rfl ?_)) (by first | exact MLe.none _ | exact MLe.refl _ | (repeat' (first | exact MLe.nil | exact MLe.refl _ | refine MLe.cons _ ?_ | refine MLe.drop _ ?_)))
                    simp_all; done
                  · skip
                    refine AOps.gt 71 rfl rfl rfl rfl rfl (op_move rfl rfl ?_)
                    refine AOps.gt 72 rfl rfl rfl rfl rfl (op_callb (xs := [.tmp 71, .const (.int .u8 115)]) rfl rfl (Js) (by first | exact Les.refl _ | (repeat' (first | exact Les.refl _ | refine Les.cons ?_ ?_ | exact Le.refl _ | exact Le.own _ _ _ | exact Le.nil _ | refine Le.agg ?_))) ?_); intro c72 h72
                    refine AOps.gt 73 rfl rfl rfl rfl rfl (op_notc rfl rfl ?_); intro c73 h73
                    try replace h73 := nott h73 h72
                    refine AOps.gt 74 rfl rfl rfl rfl rfl (op_pick rfl rfl rfl ?_)
                    refine AOps.gt 75 rfl rfl rfl rfl rfl (op_move rfl rfl ?_)
                    rcases bool_split h73 with ⟨rfl, g73⟩ | ⟨rfl, g73⟩
                    · skip
                      refine AOps.gf 76 rfl rfl rfl rfl rfl ?_
                      refine AOps.gf 77 rfl rfl rfl rfl rfl ?_
                      refine AOps.gf 78 rfl rfl rfl rfl rfl ?_
                      refine AOps.gt 79 rfl rfl rfl rfl rfl (op_pick rfl rfl rfl ?_)
                      refine AOps.st 80 rfl rfl rfl (op_pick rfl rfl rfl ?_)
                      refine AOps.nil ?_
                      refine BoolQ.mk rfl ?_ (by repeat' (first | exact SLe.wo _ _ | exact SLe.refl _ | refine SLe.fresh rfl ?_)) (by first | exact MLe.none _ | exact MLe.refl _ | (repeat' (first | exact MLe.nil | exact MLe.refl _ | refine MLe.cons _ ?_ | refine MLe.drop _ ?_)))
                      simp_all; done
                    · skip
                      refine AOps.gt 76 rfl rfl rfl rfl rfl (op_fieldAddr_c rfl tf_46_3 rfl rfl ?_)
                      refine AOps.gt 77 rfl rfl rfl rfl rfl (op_load_c1 rfl ta_2 rfl rfl ?_)
                      refine AOps.gt 78 rfl rfl rfl rfl rfl (op_neq rfl rfl rfl ?_); intro c78 h78
                      refine AOps.gt 79 rfl rfl rfl rfl rfl (op_pick rfl rfl rfl ?_)
                      refine AOps.st 80 rfl rfl rfl (op_pick rfl rfl rfl ?_)
                      refine AOps.nil ?_
                      refine BoolQ.mk rfl ?_ (by repeat' (first | exact SLe.wo _ _ | exact SLe.refl _ | refine SLe.fresh rfl ?_)) (by first | exact MLe.none _ | exact MLe.refl _ | (repeat' (first | exact MLe.nil | exact MLe.refl _ | refine MLe.cons _ ?_ | refine MLe.drop _ ?_)))
                      simp_all; done
                · skip
                  refine AOps.gf 67 rfl rfl rfl rfl rfl ?_
                  refine AOps.gf 68 rfl rfl rfl rfl rfl ?_
                  refine AOps.gf 69 rfl rfl rfl rfl rfl ?_
                  refine AOps.gf 70 rfl rfl rfl rfl rfl ?_
                  refine AOps.gu 71 rfl rfl rfl rfl rfl ?_
                  refine AOps.gu 72 rfl rfl rfl rfl rfl ?_
                  refine AOps.gu 73 rfl rfl rfl rfl rfl ?_
                  refine AOps.gf 74 rfl rfl rfl rfl rfl ?_
                  refine AOps.gf 75 rfl rfl rfl rfl rfl ?_
                  refine AOps.gu 76 rfl rfl rfl rfl rfl ?_
                  refine AOps.gu 77 rfl rfl rfl rfl rfl ?_
                  refine AOps.gu 78 rfl rfl rfl rfl rfl ?_
                  refine AOps.gf 79 rfl rfl rfl rfl rfl ?_
                  refine AOps.st 80 rfl rfl rfl (op_pick rfl rfl rfl ?_)
                  refine AOps.nil ?_
                  refine BoolQ.mk rfl ?_ (by repeat' (first | exact SLe.wo _ _ | exact SLe.refl _ | refine SLe.fresh rfl ?_)) (by first | exact MLe.none _ | exact MLe.refl _ | (repeat' (first | exact MLe.nil | exact MLe.refl _ | refine MLe.cons _ ?_ | refine MLe.drop _ ?_)))
                  simp_all; done
            · skip
              refine AOps.gt 51 rfl rfl rfl rfl rfl (op_fieldAddr_c rfl tf_46_1 rfl rfl ?_)
              refine AOps.gt 52 rfl rfl rfl rfl rfl (op_load_c1 rfl ta_3 rfl rfl ?_)
              refine AOps.gt 53 rfl rfl rfl rfl rfl (op_neq rfl rfl rfl ?_); intro c53 h53
              refine AOps.gt 54 rfl rfl rfl rfl rfl (op_pick rfl rfl rfl ?_)
              refine AOps.st 55 rfl rfl rfl (op_pick rfl rfl rfl ?_)
              refine AOps.st 56 rfl rfl rfl (op_move rfl rfl ?_)
              rcases bool_split h53 with ⟨rfl, g53⟩ | ⟨rfl, g53⟩
              · skip
                refine AOps.gt 57 rfl rfl rfl rfl rfl (op_move rfl rfl ?_)
                refine AOps.gt 58 rfl rfl rfl rfl rfl (op_callb (xs := [.tmp 57, .const (.int .u8 98)]) rfl rfl (Jb) (by first | exact Les.refl _ | (repeat' (first | exact Les.refl _ | refine Les.cons ?_ ?_ | exact Le.refl _ | exact Le.own _ _ _ | exact Le.nil _ | refine Le.agg ?_))) ?_); intro c58 h58
                refine AOps.gt 59 rfl rfl rfl rfl rfl (op_notc rfl rfl ?_); intro c59 h59
                try replace h59 := nott h59 h58
                refine AOps.gt 60 rfl rfl rfl rfl rfl (op_move rfl rfl ?_)
                rcases bool_split h59 with ⟨rfl, g59⟩ | ⟨rfl, g59⟩
                · skip
                  refine AOps.gf 61 rfl rfl rfl rfl rfl ?_
                  refine AOps.gf 62 rfl rfl rfl rfl rfl ?_
                  refine AOps.gf 63 rfl rfl rfl rfl rfl ?_
                  refine AOps.gt 64 rfl rfl rfl rfl rfl (op_pick rfl rfl rfl ?_)
                  refine AOps.st 65 rfl rfl rfl (op_pick rfl rfl rfl ?_)
                  refine AOps.st 66 rfl rfl rfl (op_move rfl rfl ?_)
                  refine AOps.gt 67 rfl rfl rfl rfl rfl (op_move rfl rfl ?_)
                  refine AOps.gt 68 rfl rfl rfl rfl rfl (op_callb (xs := [.tmp 67, .const (.int .u8 110)]) rfl rfl (Jn) (by first | exact Les.refl _ | (repeat' (first | exact Les.refl _ | refine Les.cons ?_ ?_ | exact Le.refl _ | exact Le.own _ _ _ | exact Le.nil _ | refine Le.agg ?_))) ?_); intro c68 h68
                  refine AOps.gt 69 rfl rfl rfl rfl rfl (op_notc rfl rfl ?_); intro c69 h69
                  try replace h69 := nott h69 h68
                  refine AOps.gt 70 rfl rfl rfl rfl rfl (op_move rfl rfl ?_)
                  rcases bool_split h69 with ⟨rfl, g69⟩ | ⟨rfl, g69⟩
                  · skip
                    refine AOps.gf 71 rfl rfl rfl rfl rfl ?_
                    refine AOps.gf 72 rfl rfl rfl rfl rfl ?_
                    refine AOps.gf 73 rfl rfl rfl rfl rfl ?_
                    refine AOps.gt 74 rfl rfl rfl rfl rfl (op_pick rfl rfl rfl ?_)
                    refine AOps.gt 75 rfl rfl rfl rfl rfl (op_move rfl rfl ?_)
                    refine AOps.gf 76 rfl rfl rfl rfl rfl ?_
                    refine AOps.gf 77 rfl rfl rfl rfl rfl ?_
                    refine AOps.gf 78 rfl rfl rfl rfl rfl ?_
                    refine AOps.gt 79 rfl rfl rfl rfl rfl (op_pick rfl rfl rfl ?_)
                    refine AOps.st 80 rfl rfl rfl (op_pick rfl rfl rfl ?_)
                    refine AOps.nil ?_
                    refine BoolQ.mk rfl ?_ (by repeat' (first | exact SLe.wo _ _ | exact SLe.refl _ | refine SLe.fresh rfl ?_)) (by first | exact MLe.none _ | exact MLe.refl _ | (repeat' (first | exact MLe.nil | exact MLe.refl _ | refine MLe.cons _ ?_ | refine MLe.drop _ ?_)))
                    simp_all; done
                  · skip
                    refine AOps.gt 71 rfl rfl rfl rfl rfl (op_move rfl rfl ?_)
                    refine AOps.gt 72 rfl rfl rfl rfl rfl (op_callb (xs := [.tmp 71, .const (.int .u8 115)]) rfl rfl (Js) (by first | exact Les.refl _ | (repeat' (first | exact Les.refl _ | refine Les.cons ?_ ?_ | exact Le.refl _ | exact Le.own _ _ _ | exact Le.nil _ | refine Le.agg ?_))) ?_); intro c72 h72
                    refine AOps.gt 73 rfl rfl rfl rfl rfl (op_notc rfl rfl ?_); intro c73 h73
                    try replace h73 := nott h73 h72
                    refine AOps.gt 74 rfl rfl rfl rfl rfl (op_pick rfl rfl rfl ?_)
                    refine AOps.gt 75 rfl rfl rfl rfl rfl (op_move rfl rfl ?_)
                    rcases bool_split h73 with ⟨rfl, g73⟩ | ⟨rfl, g73⟩
                    · skip
                      refine AOps.gf 76 rfl rfl rfl rfl rfl ?_
                      refine AOps.gf 77 rfl rfl rfl rfl rfl ?_
                      refine AOps.gf 78 rfl rfl rfl rfl rfl ?_
                      refine AOps.gt 79 rfl rfl rfl rfl rfl (op_pick rfl rfl rfl ?_)
                      refine AOps.st 80 rfl rfl rfl (op_pick rfl rfl rfl ?_)
                      refine AOps.nil ?_
                      refine BoolQ.mk rfl ?_ (by repeat' (first | exact SLe.wo _ _ | exact SLe.refl _ | refine SLe.fresh rfl ?_)) (by first | exact MLe.none _ | exact MLe.refl _ | (repeat' (first | exact MLe.nil | exact MLe.refl _ | refine MLe.cons _ ?_ | refine MLe.drop _ ?_)))
                      simp_all; done
                    · skip
                      refine AOps.gt 76 rfl rfl rfl rfl rfl (op_fieldAddr_c rfl tf_46_3 rfl rfl ?_)
                      refine AOps.gt 77 rfl rfl rfl rfl rfl (op_load_c1 rfl ta_2 rfl rfl ?_)
                      refine AOps.gt 78 rfl rfl rfl rfl rfl (op_neq rfl rfl rfl ?_); intro c78 h78
                      refine AOps.gt 79 rfl rfl rfl rfl rfl (op_pick rfl rfl rfl ?_)
                      refine AOps.st 80 rfl rfl rfl (op_pick rfl rfl rfl ?_)
                      refine AOps.nil ?_
                      refine BoolQ.mk rfl ?_ (by repeat' (first | exact SLe.wo _ _ | exact SLe.refl _ | refine SLe.fresh rfl ?_)) (by first | exact MLe.none _ | exact MLe.refl _ | (repeat' (first | exact MLe.nil | exact MLe.refl _ | refine MLe.cons _ ?_ | refine MLe.drop _ ?_)))
                      simp_all; done
                · skip
                  refine AOps.gt 61 rfl rfl rfl rfl rfl (op_fieldAddr_c rfl tf_46_2 rfl rfl ?_)
                  refine AOps.gt 62 rfl rfl rfl rfl rfl (op_load_c1 rfl ta_3 rfl rfl ?_)
                  refine AOps.gt 63 rfl rfl rfl rfl rfl (op_neq rfl rfl rfl ?_); intro c63 h63
                  refine AOps.gt 64 rfl rfl rfl rfl rfl (op_pick rfl rfl rfl ?_)
                  refine AOps.st 65 rfl rfl rfl (op_pick rfl rfl rfl ?_)
                  refine AOps.st 66 rfl rfl rfl (op_move rfl rfl ?_)
                  rcases bool_split h63 with ⟨rfl, g63⟩ | ⟨rfl, g63⟩
                  · skip
                    refine AOps.gt 67 rfl rfl rfl rfl rfl (op_move rfl rfl ?_)
                    refine AOps.gt 68 rfl rfl rfl rfl rfl (op_callb (xs := [.tmp 67, .const (.int .u8 110)]) rfl rfl (Jn) (by first | exact Les.refl _ | (repeat' (first | exact Les.refl _ | refine Les.cons ?_ ?_ | exact Le.refl _ | exact Le.own _ _ _ | exact Le.nil _ | refine Le.agg ?_))) ?_); intro c68 h68
                    refine AOps.gt 69 rfl rfl rfl rfl rfl (op_notc rfl rfl ?_); intro c69 h69
                    try replace h69 := nott h69 h68
                    refine AOps.gt 70 rfl rfl rfl rfl rfl (op_move rfl rfl ?_)
                    rcases bool_split h69 with ⟨rfl, g69⟩ | ⟨rfl, g69⟩
                    · skip
                      refine AOps.gf 71 rfl rfl rfl rfl rfl ?_
                      refine AOps.gf 72 rfl rfl rfl rfl rfl ?_
                      refine AOps.gf 73 rfl rfl rfl rfl rfl ?_
                      refine AOps.gt 74 rfl rfl rfl rfl rfl (op_pick rfl rfl rfl ?_)
                      refine AOps.gt 75 rfl rfl rfl rfl rfl (op_move rfl rfl ?_)
                      refine AOps.gf 76 rfl rfl rfl rfl rfl ?_
                      refine AOps.gf 77 rfl rfl rfl rfl rfl ?_
                      refine AOps.gf 78 rfl rfl rfl rfl rfl ?_
                      refine AOps.gt 79 rfl rfl rfl rfl rfl (op_pick rfl rfl rfl ?_)
                      refine AOps.st 80 rfl rfl rfl (op_pick rfl rfl rfl ?_)
                      refine AOps.nil ?_
                      refine BoolQ.mk rfl ?_ (by repeat' (first | exact SLe.wo _ _ | exact SLe.refl _ | refine SLe.fresh rfl ?_)) (by first | exact MLe.none _ | exact MLe.refl _ | (repeat' (first | exact MLe.nil | exact MLe.refl _ | refine MLe.cons _ ?_ | refine MLe.drop _ ?_)))
                      simp_all; done
                    · skip
                      refine AOps.gt 71 rfl rfl rfl rfl rfl (op_move rfl rfl ?_)
                      refine AOps.gt 72 rfl rfl rfl rfl rfl (op_callb (xs := [.tmp 71, .const (.int .u8 115)]) rfl rfl (Js) (by first | exact Les.refl _ | (repeat' (first | exact Les.refl _ | refine Les.cons ?_ ?_ | exact Le.refl _ | exact Le.own _ _ _ | exact Le.nil _ | refine Le.agg ?_))) ?_); intro c72 h72
                      refine AOps.gt 73 rfl rfl rfl rfl rfl (op_notc rfl rfl ?_); intro c73 h73
                      try replace h73 := nott h73 h72
                      refine AOps.gt 74 rfl rfl rfl rfl rfl (op_pick rfl rfl rfl ?_)
                      refine AOps.gt 75 rfl rfl rfl rfl rfl (op_move rfl rfl ?_)
                      rcases bool_split h73 with ⟨rfl, g73⟩ | ⟨rfl, g73⟩
                      · skip
                        refine AOps.gf 76 rfl rfl rfl rfl rfl ?_
                        refine AOps.gf 77 rfl rfl rfl rfl rfl ?_
                        refine AOps.gf 78 rfl rfl rfl rfl rfl ?_
                        refine AOps.gt 79 rfl rfl rfl rfl rfl (op_pick rfl rfl rfl ?_)
                        refine AOps.st 80 rfl rfl rfl (op_pick rfl rfl rfl ?_)
                        refine AOps.nil ?_
                        refine BoolQ.mk rfl ?_ (by repeat' (first | exact SLe.wo _ _ | exact SLe.refl _ | refine SLe.fresh rfl ?_)) (by first | exact MLe.none _ | exact MLe.refl _ | (repeat' (first | exact MLe.nil | exact MLe.refl _ | refine MLe.cons _ ?_ | refine MLe.drop _ ?_)))
                        simp_all; done
                      · skip
                        refine AOps.gt 76 rfl rfl rfl rfl rfl (op_fieldAddr_c rfl tf_46_3 rfl rfl ?_)
                        refine AOps.gt 77 rfl rfl rfl rfl rfl (op_load_c1 rfl ta_2 rfl rfl ?_)
                        refine AOps.gt 78 rfl rfl rfl rfl rfl (op_neq rfl rfl rfl ?_); intro c78 h78
                        refine AOps.gt 79 rfl rfl rfl rfl rfl (op_pick rfl rfl rfl ?_)
                        refine AOps.st 80 rfl rfl rfl (op_pick rfl rfl rfl ?_)
                        refine AOps.nil ?_
                        refine BoolQ.mk rfl ?_ (by repeat' (first | exact SLe.wo _ _ | exact SLe.refl _ | refine SLe.fresh rfl ?_)) (by first | exact MLe.none _ | exact MLe.refl _ | (repeat' (first | exact MLe.nil | exact MLe.refl _ | refine MLe.cons _ ?_ | refine MLe.drop _ ?_)))
                        simp_all; done
                  · skip
                    refine AOps.gf 67 rfl rfl rfl rfl rfl ?_
                    refine AOps.gf 68 rfl rfl rfl rfl rfl ?_
                    refine AOps.gf 69 rfl rfl rfl rfl rfl ?_
                    refine AOps.gf 70 rfl rfl rfl rfl rfl ?_
                    refine AOps.gu 71 rfl rfl rfl rfl rfl ?_
                    refine AOps.gu 72 rfl rfl rfl rfl rfl ?_
                    refine AOps.gu 73 rfl rfl rfl rfl rfl ?_
                    refine AOps.gf 74 rfl rfl rfl rfl rfl ?_
                    refine AOps.gf 75 rfl rfl rfl rfl rfl ?_
                    refine AOps.gu 76 rfl rfl rfl rfl rfl ?_
                    refine AOps.gu 77 rfl rfl rfl rfl rfl ?_
                    refine AOps.gu 78 rfl rfl rfl rfl rfl ?_
                    refine AOps.gf 79 rfl rfl rfl rfl rfl ?_
                    refine AOps.st 80 rfl rfl rfl (op_pick rfl rfl rfl ?_)
                    refine AOps.nil ?_
                    refine BoolQ.mk rfl ?_ (by repeat' (first | exact SLe.wo _ _ | exact SLe.refl _ | refine SLe.fresh rfl ?_)) (by first | exact MLe.none _ | exact MLe.refl _ | (repeat' (first | exact MLe.nil | exact MLe.refl _ | refine MLe.cons _ ?_ | refine MLe.drop _ ?_)))
                    simp_all; done
              · skip
                refine AOps.gf 57 rfl rfl rfl rfl rfl ?_
                refine AOps.gf 58 rfl rfl rfl rfl rfl ?_
                refine AOps.gf 59 rfl rfl rfl rfl rfl ?_
                refine AOps.gf 60 rfl rfl rfl rfl rfl ?_
                refine AOps.gu 61 rfl rfl rfl rfl rfl ?_
                refine AOps.gu 62 rfl rfl rfl rfl rfl ?_
                refine AOps.gu 63 rfl rfl rfl rfl rfl ?_
                refine AOps.gf 64 rfl rfl rfl rfl rfl ?_
                refine AOps.st 65 rfl rfl rfl (op_pick rfl rfl rfl ?_)
                refine AOps.st 66 rfl rfl rfl (op_move rfl rfl ?_)
                refine AOps.gf 67 rfl rfl rfl rfl rfl ?_
                refine AOps.gf 68 rfl rfl rfl rfl rfl ?_
                refine AOps.gf 69 rfl rfl rfl rfl rfl ?_
                refine AOps.gf 70 rfl rfl rfl rfl rfl ?_
                refine AOps.gu 71 rfl rfl rfl rfl rfl ?_
                refine AOps.gu 72 rfl rfl rfl rfl rfl ?_
                refine AOps.gu 73 rfl rfl rfl rfl rfl ?_
                refine AOps.gf 74 rfl rfl rfl rfl rfl ?_
                refine AOps.gf 75 rfl rfl rfl rfl rfl ?_
                refine AOps.gu 76 rfl rfl rfl rfl rfl ?_
                refine AOps.gu 77 rfl rfl rfl rfl rfl ?_
                refine AOps.gu 78 rfl rfl rfl rfl rfl ?_
                refine AOps.gf 79 rfl rfl rfl rfl rfl ?_
                refine AOps.st 80 rfl rfl rfl (op_pick rfl rfl rfl ?_)
                refine AOps.nil ?_
                refine BoolQ.mk rfl ?_ (by repeat' (first | exact SLe.wo _ _ | exact SLe.refl _ | refine SLe.fresh rfl ?_)) (by first | exact MLe.none _ | exact MLe.refl _ | (repeat' (first | exact MLe.nil | exact MLe.refl _ | refine MLe.cons _ ?_ | refine MLe.drop _ ?_)))
                simp_all; done
          · skip
            refine AOps.gf 47 rfl rfl rfl rfl rfl ?_
            refine AOps.gf 48 rfl rfl rfl rfl rfl ?_
            refine AOps.gf 49 rfl rfl rfl rfl rfl ?_
            refine AOps.gf 50 rfl rfl rfl rfl rfl ?_
            refine AOps.gu 51 rfl rfl rfl rfl rfl ?_
            refine AOps.gu 52 rfl rfl rfl rfl rfl ?_
            refine AOps.gu 53 rfl rfl rfl rfl rfl ?_
            refine AOps.gf 54 rfl rfl rfl rfl rfl ?_
            refine AOps.st 55 rfl rfl rfl (op_pick rfl rfl rfl ?_)
            refine AOps.st 56 rfl rfl rfl (op_move rfl rfl ?_)
            refine AOps.gf 57 rfl rfl rfl rfl rfl ?_
            refine AOps.gf 58 rfl rfl rfl rfl rfl ?_
            refine AOps.gf 59 rfl rfl rfl rfl rfl ?_
            refine AOps.gf 60 rfl rfl rfl rfl rfl ?_
            refine AOps.gu 61 rfl rfl rfl rfl rfl ?_
            refine AOps.gu 62 rfl rfl rfl rfl rfl ?_
            refine AOps.gu 63 rfl rfl rfl rfl rfl ?_
            refine AOps.gf 64 rfl rfl rfl rfl rfl ?_
            refine AOps.st 65 rfl rfl rfl (op_pick rfl rfl rfl ?_)
            refine AOps.st 66 rfl rfl rfl (op_move rfl rfl ?_)
            refine AOps.gf 67 rfl rfl rfl rfl rfl ?_
            refine AOps.gf 68 rfl rfl rfl rfl rfl ?_
            refine AOps.gf 69 rfl rfl rfl rfl rfl ?_
            refine AOps.gf 70 rfl rfl rfl rfl rfl ?_
            refine AOps.gu 71 rfl rfl rfl rfl rfl ?_
            refine AOps.gu 72 rfl rfl rfl rfl rfl ?_
            refine AOps.gu 73 rfl rfl rfl rfl rfl ?_
            refine AOps.gf 74 rfl rfl rfl rfl rfl ?_
            refine AOps.gf 75 rfl rfl rfl rfl rfl ?_
            refine AOps.gu 76 rfl rfl rfl rfl rfl ?_
            refine AOps.gu 77 rfl rfl rfl rfl rfl ?_
            refine AOps.gu 78 rfl rfl rfl rfl rfl ?_
            refine AOps.gf 79 rfl rfl rfl rfl rfl ?_
            refine AOps.st 80 rfl rfl rfl (op_pick rfl rfl rfl ?_)
            refine AOps.nil ?_
            refine BoolQ.mk rfl ?_ (by repeat' (first | exact SLe.wo _ _ | exact SLe.refl _ | refine SLe.fresh rfl ?_)) (by first | exact MLe.none _ | exact MLe.refl _ | (repeat' (first | exact MLe.nil | exact MLe.refl _ | refine MLe.cons _ ?_ | refine MLe.drop _ ?_)))
            first | (simp_all; done) | (simp_all; omega)
        · skip
          refine AOps.gf 40 rfl rfl rfl rfl rfl ?_
          refine AOps.gf 41 rfl rfl rfl rfl rfl ?_
          refine AOps.gf 42 rfl rfl rfl rfl rfl ?_
          refine AOps.gf 43 rfl rfl rfl rfl rfl ?_
          refine AOps.gt 44 rfl rfl rfl rfl rfl (op_pick rfl rfl rfl ?_)
          refine AOps.st 45 rfl rfl rfl (op_pick rfl rfl rfl ?_)
          refine AOps.st 46 rfl rfl rfl (op_move rfl rfl ?_)
          refine AOps.gf 47 rfl rfl rfl rfl rfl ?_
          refine AOps.gf 48 rfl rfl rfl rfl rfl ?_
          refine AOps.gf 49 rfl rfl rfl rfl rfl ?_
          refine AOps.gf 50 rfl rfl rfl rfl rfl ?_
          refine AOps.gu 51 rfl rfl rfl rfl rfl ?_
          refine AOps.gu 52 rfl rfl rfl rfl rfl ?_
          refine AOps.gu 53 rfl rfl rfl rfl rfl ?_
          refine AOps.gf 54 rfl rfl rfl rfl rfl ?_
          refine AOps.st 55 rfl rfl rfl (op_pick rfl rfl rfl ?_)
          refine AOps.st 56 rfl rfl rfl (op_move rfl rfl ?_)
          refine AOps.gf 57 rfl rfl rfl rfl rfl ?_
          refine AOps.gf 58 rfl rfl rfl rfl rfl ?_
          refine AOps.gf 59 rfl rfl rfl rfl rfl ?_
          refine AOps.gf 60 rfl rfl rfl rfl rfl ?_
          refine AOps.gu 61 rfl rfl rfl rfl rfl ?_
          refine AOps.gu 62 rfl rfl rfl rfl rfl ?_
          refine AOps.gu 63 rfl rfl rfl rfl rfl ?_
          refine AOps.gf 64 rfl rfl rfl rfl rfl ?_
          refine AOps.st 65 rfl rfl rfl (op_pick rfl rfl rfl ?_)
          refine AOps.st 66 rfl rfl rfl (op_move rfl rfl ?_)
          refine AOps.gf 67 rfl rfl rfl rfl rfl ?_
          refine AOps.gf 68 rfl rfl rfl rfl rfl ?_
          refine AOps.gf 69 rfl rfl rfl rfl rfl ?_
          refine AOps.gf 70 rfl rfl rfl rfl rfl ?_
          refine AOps.gu 71 rfl rfl rfl rfl rfl ?_
          refine AOps.gu 72 rfl rfl rfl rfl rfl ?_
          refine AOps.gu 73 rfl rfl rfl rfl rfl ?_
          refine AOps.gf 74 rfl rfl rfl rfl rfl ?_
          refine AOps.gf 75 rfl rfl rfl rfl rfl ?_
          refine AOps.gu 76 rfl rfl rfl rfl rfl ?_
          refine AOps.gu 77 rfl rfl rfl rfl rfl ?_
          refine AOps.gu 78 rfl rfl rfl rfl rfl ?_
          refine AOps.gf 79 rfl rfl rfl rfl rfl ?_
          refine AOps.st 80 rfl rfl rfl (op_pick rfl rfl rfl ?_)
          refine AOps.nil ?_
          refine BoolQ.mk rfl ?_ (by repeat' (first | exact SLe.wo _ _ | exact SLe.refl _ | refine SLe.fresh rfl ?_)) (by first | exact MLe.none _ | exact MLe.refl _ | (repeat' (first | exact MLe.nil | exact MLe.refl _ | refine MLe.cons _ ?_ | refine MLe.drop _ ?_)))
          first | (simp_all; done) | (simp_all; omega)
    intro c80 h80
    refine go_code ?_
    rcases bool_split h80 with ⟨rfl, g80⟩ | ⟨rfl, g80⟩
    · refine c_cond_f rfl ?_
      refine c_skip ?_
      refine go_code ?_
      refine c_seq ?_
      refine c_seq ?_
      have e3 := Classical.not_not.1 g80
      refine c_bool 120 (¬ ((op = 2 → 0 ≤ b ∧ b < tx.length) ∧ (op > 12 ∧ oB → fr ≤ b ∧ b < fr + fl))) ?_ _ _ rfl ?_
      · skip
        refine AOps.st 81 rfl rfl rfl (op_fieldAddr_c rfl tf_46_0 rfl rfl ?_)
        refine AOps.st 82 rfl rfl rfl (op_load_c1 rfl ta_3 rfl rfl ?_)
        refine AOps.st 83 rfl rfl rfl (op_eql rfl rfl rfl ?_); intro c83 h83
        refine AOps.st 84 rfl rfl rfl (op_move rfl rfl ?_)
        rcases bool_split h83 with ⟨rfl, g83⟩ | ⟨rfl, g83⟩
        · skip
          refine AOps.gf 85 rfl rfl rfl rfl rfl ?_
          refine AOps.gf 86 rfl rfl rfl rfl rfl ?_
          refine AOps.gf 87 rfl rfl rfl rfl rfl ?_
          refine AOps.gf 88 rfl rfl rfl rfl rfl ?_
          refine AOps.gu 89 rfl rfl rfl rfl rfl ?_
          refine AOps.gu 90 rfl rfl rfl rfl rfl ?_
          refine AOps.gu 91 rfl rfl rfl rfl rfl ?_
          refine AOps.gu 92 rfl rfl rfl rfl rfl ?_
          refine AOps.gu 93 rfl rfl rfl rfl rfl ?_
          refine AOps.gu 94 rfl rfl rfl rfl rfl ?_
          refine AOps.gf 95 rfl rfl rfl rfl rfl ?_
          refine AOps.st 96 rfl rfl rfl (op_pick rfl rfl rfl ?_)
          refine AOps.st 97 rfl rfl rfl (op_move rfl rfl ?_)
          refine AOps.gt 98 rfl rfl rfl rfl rfl (op_fieldAddr_c rfl tf_46_0 rfl rfl ?_)
          refine AOps.gt 99 rfl rfl rfl rfl rfl (op_load_c1 rfl ta_3 rfl rfl ?_)
          refine AOps.gt 100 rfl rfl rfl rfl rfl (op_gtr rfl rfl rfl ?_); intro c100 h100
          refine AOps.gt 101 rfl rfl rfl rfl rfl (op_move rfl rfl ?_)
          rcases bool_split h100 with ⟨rfl, g100⟩ | ⟨rfl, g100⟩
          · skip
            refine AOps.gf 102 rfl rfl rfl rfl rfl ?_
            refine AOps.gf 103 rfl rfl rfl rfl rfl ?_
            refine AOps.gt 104 rfl rfl rfl rfl rfl (op_pick rfl rfl rfl ?_)
            refine AOps.gt 105 rfl rfl rfl rfl rfl (op_move rfl rfl ?_)
            refine AOps.gf 106 rfl rfl rfl rfl rfl ?_
            refine AOps.gf 107 rfl rfl rfl rfl rfl ?_
            refine AOps.gf 108 rfl rfl rfl rfl rfl ?_
            refine AOps.gf 109 rfl rfl rfl rfl rfl ?_
            refine AOps.gf 110 rfl rfl rfl rfl rfl ?_
            refine AOps.gu 111 rfl rfl rfl rfl rfl ?_
            refine AOps.gu 112 rfl rfl rfl rfl rfl ?_
            refine AOps.gu 113 rfl rfl rfl rfl rfl ?_
            refine AOps.gu 114 rfl rfl rfl rfl rfl ?_
            refine AOps.gu 115 rfl rfl rfl rfl rfl ?_
            refine AOps.gu 116 rfl rfl rfl rfl rfl ?_
            refine AOps.gu 117 rfl rfl rfl rfl rfl ?_
            refine AOps.gf 118 rfl rfl rfl rfl rfl ?_
            refine AOps.gt 119 rfl rfl rfl rfl rfl (op_pick rfl rfl rfl ?_)
            refine AOps.st 120 rfl rfl rfl (op_pick rfl rfl rfl ?_)
            refine AOps.nil ?_
            refine BoolQ.mk rfl ?_ (by repeat' (first | exact SLe.wo _ _ | exact SLe.refl _ | refine SLe.fresh rfl ?_)) (by first | exact MLe.none _ | exact MLe.refl _ | (repeat' (first | exact MLe.nil | exact MLe.refl _ | refine MLe.cons _ ?_ | refine MLe.drop _ ?_)))
            first | (simp_all; done) | (simp_all; omega)
          · skip
            refine AOps.gt 102 rfl rfl rfl rfl rfl (op_move rfl rfl ?_)
            refine AOps.gt 103 rfl rfl rfl rfl rfl (op_callb (xs := [.tmp 102, .const (.int .u8 98)]) rfl rfl (Jb) (by first | exact Les.refl _ | (repeat' (first | exact Les.refl _ | refine Les.cons ?_ ?_ | exact Le.refl _ | exact Le.own _ _ _ | exact Le.nil _ | refine Le.agg ?_))) ?_); intro c103 h103
            refine AOps.gt 104 rfl rfl rfl rfl rfl (op_pick rfl rfl rfl ?_)
            refine AOps.gt 105 rfl rfl rfl rfl rfl (op_move rfl rfl ?_)
            rcases bool_split h103 with ⟨rfl, g103⟩ | ⟨rfl, g103⟩
            · skip
              refine AOps.gf 106 rfl rfl rfl rfl rfl ?_
              refine AOps.gf 107 rfl rfl rfl rfl rfl ?_
              refine AOps.gf 108 rfl rfl rfl rfl rfl ?_
              refine AOps.gf 109 rfl rfl rfl rfl rfl ?_
              refine AOps.gf 110 rfl rfl rfl rfl rfl ?_
              refine AOps.gu 111 rfl rfl rfl rfl rfl ?_
              refine AOps.gu 112 rfl rfl rfl rfl rfl ?_
              refine AOps.gu 113 rfl rfl rfl rfl rfl ?_
              refine AOps.gu 114 rfl rfl rfl rfl rfl ?_
              refine AOps.gu 115 rfl rfl rfl rfl rfl ?_
              refine AOps.gu 116 rfl rfl rfl rfl rfl ?_
              refine AOps.gu 117 rfl rfl rfl rfl rfl ?_
              refine AOps.gf 118 rfl rfl rfl rfl rfl ?_
              refine AOps.gt 119 rfl rfl rfl rfl rfl (op_pick rfl rfl rfl ?_)
              refine AOps.st 120 rfl rfl rfl (op_pick rfl rfl rfl ?_)
              refine AOps.nil ?_
              refine BoolQ.mk rfl ?_ (by repeat' (first | exact SLe.wo _ _ | exact SLe.refl _ | refine SLe.fresh rfl ?_)) (by first | exact MLe.none _ | exact MLe.refl _ | (repeat' (first | exact MLe.nil | exact MLe.refl _ | refine MLe.cons _ ?_ | refine MLe.drop _ ?_)))
              simp_all; done
            · skip
              refine AOps.gt 106 rfl rfl rfl rfl rfl (op_fieldAddr_c rfl tf_46_2 rfl rfl ?_)
              refine AOps.gt 107 rfl rfl rfl rfl rfl (op_load_c1 rfl ta_3 rfl rfl ?_)
              refine AOps.gt 108 rfl rfl rfl rfl rfl (op_move rfl rfl ?_)
              refine AOps.gt 109 rfl rfl rfl rfl rfl (op_lss rfl rfl rfl ?_); intro c109 h109
              refine AOps.gt 110 rfl rfl rfl rfl rfl (op_move rfl rfl ?_)
              rcases bool_split h109 with ⟨rfl, g109⟩ | ⟨rfl, g109⟩
              · skip
                refine AOps.gt 111 rfl rfl rfl rfl rfl (op_fieldAddr_c rfl tf_46_2 rfl rfl ?_)
                refine AOps.gt 112 rfl rfl rfl rfl rfl (op_load_c1 rfl ta_3 rfl rfl ?_)
                refine AOps.gt 113 rfl rfl rfl rfl rfl (op_move rfl rfl ?_)
                refine AOps.gt 114 rfl rfl rfl rfl rfl (op_fieldAddr_c rfl tf_39_0 rfl rfl ?_)
                refine AOps.gt 115 rfl rfl rfl rfl rfl (op_load_c1 rfl ta_3 rfl rfl ?_)
                refine AOps.gt 116 rfl rfl rfl rfl rfl (op_add rfl rfl rfl (IntWalk.i64_in _ (by omega)) ?_)
                refine AOps.gt 117 rfl rfl rfl rfl rfl (op_geq rfl rfl rfl ?_); intro c117 h117
                refine AOps.gt 118 rfl rfl rfl rfl rfl (op_pick rfl rfl rfl ?_)
                refine AOps.gt 119 rfl rfl rfl rfl rfl (op_pick rfl rfl rfl ?_)
                refine AOps.st 120 rfl rfl rfl (op_pick rfl rfl rfl ?_)
                refine AOps.nil ?_
                refine BoolQ.mk rfl ?_ (by repeat' (first | exact SLe.wo _ _ | exact SLe.refl _ | refine SLe.fresh rfl ?_)) (by first | exact MLe.none _ | exact MLe.refl _ | (repeat' (first | exact MLe.nil | exact MLe.refl _ | refine MLe.cons _ ?_ | refine MLe.drop _ ?_)))
                simp_all; done
              · skip
                refine AOps.gf 111 rfl rfl rfl rfl rfl ?_
                refine AOps.gf 112 rfl rfl rfl rfl rfl ?_
                refine AOps.gf 113 rfl rfl rfl rfl rfl ?_
                refine AOps.gf 114 rfl rfl rfl rfl rfl ?_
                refine AOps.gf 115 rfl rfl rfl rfl rfl ?_
                refine AOps.gf 116 rfl rfl rfl rfl rfl ?_
                refine AOps.gf 117 rfl rfl rfl rfl rfl ?_
                refine AOps.gt 118 rfl rfl rfl rfl rfl (op_pick rfl rfl rfl ?_)
                refine AOps.gt 119 rfl rfl rfl rfl rfl (op_pick rfl rfl rfl ?_)
                refine AOps.st 120 rfl rfl rfl (op_pick rfl rfl rfl ?_)
                refine AOps.nil ?_
                refine BoolQ.mk rfl ?_ (by repeat' (first | exact SLe.wo _ _ | exact SLe.refl _ | refine SLe.fresh rfl ?_)) (by first | exact MLe.none _ | exact MLe.refl _ | (repeat' (first | exact MLe.nil | exact MLe.refl _ | refine MLe.cons _ ?_ | refine MLe.drop _ ?_)))
                first | (simp_all; done) | (simp_all; omega)
        · skip
          refine AOps.gt 85 rfl rfl rfl rfl rfl (op_fieldAddr_c rfl tf_46_2 rfl rfl ?_)
          refine AOps.gt 86 rfl rfl rfl rfl rfl (op_load_c1 rfl ta_3 rfl rfl ?_)
          refine AOps.gt 87 rfl rfl rfl rfl rfl (op_lss rfl rfl rfl ?_); intro c87 h87
          refine AOps.gt 88 rfl rfl rfl rfl rfl (op_move rfl rfl ?_)
          rcases bool_split h87 with ⟨rfl, g87⟩ | ⟨rfl, g87⟩
          · skip
            refine AOps.gt 89 rfl rfl rfl rfl rfl (op_fieldAddr_c rfl tf_46_2 rfl rfl ?_)
            refine AOps.gt 90 rfl rfl rfl rfl rfl (op_load_c1 rfl ta_3 rfl rfl ?_)
            refine AOps.gt 91 rfl rfl rfl rfl rfl (op_fieldAddr_c rfl tf_26_2 rfl rfl ?_)
            refine AOps.gt 92 rfl rfl rfl rfl rfl (op_load_c1 rfl ta_24 rfl rfl ?_)
            refine AOps.gt 93 rfl rfl rfl rfl rfl (op_len rfl tu_24 rfl (.seq _ _) (fun n93 => ?_))
            refine AOps.gt 94 rfl rfl rfl rfl rfl (op_geq rfl rfl rfl ?_); intro c94 h94
            refine AOps.gt 95 rfl rfl rfl rfl rfl (op_pick rfl rfl rfl ?_)
            refine AOps.st 96 rfl rfl rfl (op_pick rfl rfl rfl ?_)
            refine AOps.st 97 rfl rfl rfl (op_move rfl rfl ?_)
            rcases bool_split h94 with ⟨rfl, g94⟩ | ⟨rfl, g94⟩
            · skip
              refine AOps.gt 98 rfl rfl rfl rfl rfl (op_fieldAddr_c rfl tf_46_0 rfl rfl ?_)
              refine AOps.gt 99 rfl rfl rfl rfl rfl (op_load_c1 rfl ta_3 rfl rfl ?_)
              refine AOps.gt 100 rfl rfl rfl rfl rfl (op_gtr rfl rfl rfl ?_); intro c100 h100
              refine AOps.gt 101 rfl rfl rfl rfl rfl (op_move rfl rfl ?_)
              rcases bool_split h100 with ⟨rfl, g100⟩ | ⟨rfl, g100⟩
              · skip
                refine AOps.gf 102 rfl rfl rfl rfl rfl ?_
                refine AOps.gf 103 rfl rfl rfl rfl rfl ?_
                refine AOps.gt 104 rfl rfl rfl rfl rfl (op_pick rfl rfl rfl ?_)
                refine AOps.gt 105 rfl rfl rfl rfl rfl (op_move rfl rfl ?_)
                refine AOps.gf 106 rfl rfl rfl rfl rfl ?_
                refine AOps.gf 107 rfl rfl rfl rfl rfl ?_
                refine AOps.gf 108 rfl rfl rfl rfl rfl ?_
                refine AOps.gf 109 rfl rfl rfl rfl rfl ?_
                refine AOps.gf 110 rfl rfl rfl rfl rfl ?_
                refine AOps.gu 111 rfl rfl rfl rfl rfl ?_
                refine AOps.gu 112 rfl rfl rfl rfl rfl ?_
                refine AOps.gu 113 rfl rfl rfl rfl rfl ?_
                refine AOps.gu 114 rfl rfl rfl rfl rfl ?_
                refine AOps.gu 115 rfl rfl rfl rfl rfl ?_
                refine AOps.gu 116 rfl rfl rfl rfl rfl ?_
                refine AOps.gu 117 rfl rfl rfl rfl rfl ?_
                refine AOps.gf 118 rfl rfl rfl rfl rfl ?_
                refine AOps.gt 119 rfl rfl rfl rfl rfl (op_pick rfl rfl rfl ?_)
                refine AOps.st 120 rfl rfl rfl (op_pick rfl rfl rfl ?_)
                refine AOps.nil ?_
                refine BoolQ.mk rfl ?_ (by repeat' (first | exact SLe.wo _ _ | exact SLe.refl _ | refine SLe.fresh rfl ?_)) (by first | exact MLe.none _ | exact MLe.refl _ | (repeat' (first | exact MLe.nil | exact MLe.refl _ | refine MLe.cons _ ?_ | refine MLe.drop _ ?_)))
                simp_all; done
              · skip
                refine AOps.gt 102 rfl rfl rfl rfl rfl (op_move rfl rfl ?_)
                refine AOps.gt 103 rfl rfl rfl rfl rfl (op_callb (xs := [.tmp 102, .const (.int .u8 98)]) rfl rfl (Jb) (by first | exact Les.refl _ | (repeat' (first | exact Les.refl _ | refine Les.cons ?_ ?_ | exact Le.refl _ | exact Le.own _ _ _ | exact Le.nil _ | refine Le.agg ?_))) ?_); intro c103 h103
                refine AOps.gt 104 rfl rfl rfl rfl rfl (op_pick rfl rfl rfl ?_)
                refine AOps.gt 105 rfl rfl rfl rfl rfl (op_move rfl rfl ?_)
                rcases bool_split h103 with ⟨rfl, g103⟩ | ⟨rfl, g103⟩
                · skip
                  refine AOps.gf 106 rfl rfl rfl rfl rfl ?_
                  refine AOps.gf 107 rfl rfl rfl rfl rfl ?_
                  refine AOps.gf 108 rfl rfl rfl rfl rfl ?_
                  refine AOps.gf 109 rfl rfl rfl rfl rfl ?_
                  refine AOps.gf 110 rfl rfl rfl rfl rfl ?_
                  refine AOps.gu 111 rfl rfl rfl rfl rfl ?_
                  refine AOps.gu 112 rfl rfl rfl rfl rfl ?_
                  refine AOps.gu 113 rfl rfl rfl rfl rfl ?_
                  refine AOps.gu 114 rfl rfl rfl rfl rfl ?_
                  refine AOps.gu 115 rfl rfl rfl rfl rfl ?_
                  refine AOps.gu 116 rfl rfl rfl rfl rfl ?_
                  refine AOps.gu 117 rfl rfl rfl rfl rfl ?_
                  refine AOps.gf 118 rfl rfl rfl rfl rfl ?_
                  refine AOps.gt 119 rfl rfl rfl rfl rfl (op_pick rfl rfl rfl ?_)
                  refine AOps.st 120 rfl rfl rfl (op_pick rfl rfl rfl ?_)
                  refine AOps.nil ?_
                  refine BoolQ.mk rfl ?_ (by repeat' (first | exact SLe.wo _ _ | exact SLe.refl _ | refine SLe.fresh rfl ?_)) (by first | exact MLe.none _ | exact MLe.refl _ | (repeat' (first | exact MLe.nil | exact MLe.refl _ | refine MLe.cons _ ?_ | refine MLe.drop _ ?_)))
                  simp_all; done
                · skip
                  refine AOps.gt 106 rfl rfl rfl rfl rfl (op_fieldAddr_c rfl tf_46_2 rfl rfl ?_)
                  refine AOps.gt 107 rfl rfl rfl rfl rfl (op_load_c1 rfl ta_3 rfl rfl ?_)
                  refine AOps.gt 108 rfl rfl rfl rfl rfl (op_move rfl rfl ?_)
                  refine AOps.gt 109 rfl rfl rfl rfl rfl (op_lss rfl rfl rfl ?_); intro c109 h109
                  refine AOps.gt 110 rfl rfl rfl rfl rfl (op_move rfl rfl ?_)
                  rcases bool_split h109 with ⟨rfl, g109⟩ | ⟨rfl, g109⟩
                  · skip
                    refine AOps.gt 111 rfl rfl rfl rfl rfl (op_fieldAddr_c rfl tf_46_2 rfl rfl ?_)
                    refine AOps.gt 112 rfl rfl rfl rfl rfl (op_load_c1 rfl ta_3 rfl rfl ?_)
                    refine AOps.gt 113 rfl rfl rfl rfl rfl (op_move rfl rfl ?_)
                    refine AOps.gt 114 rfl rfl rfl rfl rfl (op_fieldAddr_c rfl tf_39_0 rfl rfl ?_)
                    refine AOps.gt 115 rfl rfl rfl rfl rfl (op_load_c1 rfl ta_3 rfl rfl ?_)
                    refine AOps.gt 116 rfl rfl rfl rfl rfl (op_add rfl rfl rfl (IntWalk.i64_in _ (by omega)) ?_)
                    refine AOps.gt 117 rfl rfl rfl rfl rfl (op_geq rfl rfl rfl ?_); intro c117 h117
                    refine AOps.gt 118 rfl rfl rfl rfl rfl (op_pick rfl rfl rfl ?_)
                    refine AOps.gt 119 rfl rfl rfl rfl rfl (op_pick rfl rfl rfl ?_)
                    refine AOps.st 120 rfl rfl rfl (op_pick rfl rfl rfl ?_)
                    refine AOps.nil ?_
                    refine BoolQ.mk rfl ?_ (by repeat' (first | exact SLe.wo _ _ | exact SLe.refl _ | refine SLe.fresh rfl ?_)) (by first | exact MLe.none _ | exact MLe.refl _ | (repeat' (first | exact MLe.nil | exact MLe.refl _ | refine MLe.cons _ ?_ | refine MLe.drop _ ?_)))
                    simp_all; done
                  · skip
                    refine AOps.gf 111 rfl rfl rfl rfl rfl ?_
                    refine AOps.gf 112 rfl rfl rfl rfl rfl ?_
                    refine AOps.gf 113 rfl rfl rfl rfl rfl ?_
                    refine AOps.gf 114 rfl rfl rfl rfl rfl ?_
                    refine AOps.gf 115 rfl rfl rfl rfl rfl ?_
                    refine AOps.gf 116 rfl rfl rfl rfl rfl ?_
                    refine AOps.gf 117 rfl rfl rfl rfl rfl ?_
                    refine AOps.gt 118 rfl rfl rfl rfl rfl (op_pick rfl rfl rfl ?_)
                    refine AOps.gt 119 rfl rfl rfl rfl rfl (op_pick rfl rfl rfl ?_)
                    refine AOps.st 120 rfl rfl rfl (op_pick rfl rfl rfl ?_)
                    refine AOps.nil ?_
                    refine BoolQ.mk rfl ?_ (by repeat' (first | exact SLe.wo _ _ | exact SLe.refl _ | refine SLe.fresh rfl ?_)) (by first | exact MLe.none _ | exact MLe.refl _ | (repeat' (first | exact MLe.nil | exact MLe.refl _ | refine MLe.cons _ ?_ | refine MLe.drop _ ?_)))
                    simp_all; done
            · skip
              refine AOps.gf 98 rfl rfl rfl rfl rfl ?_
              refine AOps.gf 99 rfl rfl rfl rfl rfl ?_
              refine AOps.gf 100 rfl rfl rfl rfl rfl ?_
              refine AOps.gf 101 rfl rfl rfl rfl rfl ?_
              refine AOps.gu 102 rfl rfl rfl rfl rfl ?_
              refine AOps.gu 103 rfl rfl rfl rfl rfl ?_
              refine AOps.gf 104 rfl rfl rfl rfl rfl ?_
              refine AOps.gf 105 rfl rfl rfl rfl rfl ?_
              refine AOps.gu 106 rfl rfl rfl rfl rfl ?_
              refine AOps.gu 107 rfl rfl rfl rfl rfl ?_
              refine AOps.gu 108 rfl rfl rfl rfl rfl ?_
              refine AOps.gu 109 rfl rfl rfl rfl rfl ?_
              refine AOps.gu 110 rfl rfl rfl rfl rfl ?_
              refine AOps.gu 111 rfl rfl rfl rfl rfl ?_
              refine AOps.gu 112 rfl rfl rfl rfl rfl ?_
              refine AOps.gu 113 rfl rfl rfl rfl rfl ?_
              refine AOps.gu 114 rfl rfl rfl rfl rfl ?_
              refine AOps.gu 115 rfl rfl rfl rfl rfl ?_
              refine AOps.gu 116 rfl rfl rfl rfl rfl ?_
              refine AOps.gu 117 rfl rfl rfl rfl rfl ?_
              refine AOps.gu 118 rfl rfl rfl rfl rfl ?_
              refine AOps.gf 119 rfl rfl rfl rfl rfl ?_
              refine AOps.st 120 rfl rfl rfl (op_pick rfl rfl rfl ?_)
              refine AOps.nil ?_
              refine BoolQ.mk rfl ?_ (by repeat' (first | exact SLe.wo _ _ | exact SLe.refl _ | refine SLe.fresh rfl ?_)) (by first | exact MLe.none _ | exact MLe.refl _ | (repeat' (first | exact MLe.nil | exact MLe.refl _ | refine MLe.cons _ ?_ | refine MLe.drop _ ?_)))
              simp_all; done
          · skip
            refine AOps.gf 89 rfl rfl rfl rfl rfl ?_
            refine AOps.gf 90 rfl rfl rfl rfl rfl ?_
            refine AOps.gf 91 rfl rfl rfl rfl rfl ?_
            refine AOps.gf 92 rfl rfl rfl rfl rfl ?_
            refine AOps.gf 93 rfl rfl rfl rfl rfl ?_
            refine AOps.gf 94 rfl rfl rfl rfl rfl ?_
            refine AOps.gt 95 rfl rfl rfl rfl rfl (op_pick rfl rfl rfl ?_)
            refine AOps.st 96 rfl rfl rfl (op_pick rfl rfl rfl ?_)
            refine AOps.st 97 rfl rfl rfl (op_move rfl rfl ?_)
            refine AOps.gf 98 rfl rfl rfl rfl rfl ?_
            refine AOps.gf 99 rfl rfl rfl rfl rfl ?_
            refine AOps.gf 100 rfl rfl rfl rfl rfl ?_
            refine AOps.gf 101 rfl rfl rfl rfl rfl ?_
            refine AOps.gu 102 rfl rfl rfl rfl rfl ?_
            refine AOps.gu 103 rfl rfl rfl rfl rfl ?_
            refine AOps.gf 104 rfl rfl rfl rfl rfl ?_
            refine AOps.gf 105 rfl rfl rfl rfl rfl ?_
            refine AOps.gu 106 rfl rfl rfl rfl rfl ?_
            refine AOps.gu 107 rfl rfl rfl rfl rfl ?_
            refine AOps.gu 108 rfl rfl rfl rfl rfl ?_
            refine AOps.gu 109 rfl rfl rfl rfl rfl ?_
            refine AOps.gu 110 rfl rfl rfl rfl rfl ?_
            refine AOps.gu 111 rfl rfl rfl rfl rfl ?_
            refine AOps.gu 112 rfl rfl rfl rfl rfl ?_
            refine AOps.gu 113 rfl rfl rfl rfl rfl ?_
            refine AOps.gu 114 rfl rfl rfl rfl rfl ?_
            refine AOps.gu 115 rfl rfl rfl rfl rfl ?_
            refine AOps.gu 116 rfl rfl rfl rfl rfl ?_
            refine AOps.gu 117 rfl rfl rfl rfl rfl ?_
            refine AOps.gu 118 rfl rfl rfl rfl rfl ?_
            refine AOps.gf 119 rfl rfl rfl rfl rfl ?_
            refine AOps.st 120 rfl rfl rfl (op_pick rfl rfl rfl ?_)
            refine AOps.nil ?_
            refine BoolQ.mk rfl ?_ (by repeat' (first | exact SLe.wo _ _ | exact SLe.refl _ | refine SLe.fresh rfl ?_)) (by first | exact MLe.none _ | exact MLe.refl _ | (repeat' (first | exact MLe.nil | exact MLe.refl _ | refine MLe.cons _ ?_ | refine MLe.drop _ ?_)))
            first | (simp_all; done) | (simp_all; omega)
      intro c120 h120
      refine go_code ?_
      rcases bool_split h120 with ⟨rfl, g120⟩ | ⟨rfl, g120⟩
      · refine c_cond_f rfl ?_
        refine c_skip ?_
        refine go_code ?_
        refine c_seq ?_
        refine c_seq ?_
        have e4 := Classical.not_not.1 g120
        refine c_bool 159 (¬ ((o1 → ar.length = 1) ∧ (o2 → ar.length = 2) ∧ (¬ o1 ∧ ¬ o2 ∧ ¬ o3 → ar.length = 0))) ?_ _ _ rfl ?_
        · skip
          refine AOps.st 121 rfl rfl rfl (op_move rfl rfl ?_)
          refine AOps.st 122 rfl rfl rfl (op_callb (xs := [.tmp 121, .const (.int .u8 49)]) rfl rfl (J1) (by first | exact Les.refl _ | (repeat' (first | exact Les.refl _ | refine Les.cons ?_ ?_ | exact Le.refl _ | exact Le.own _ _ _ | exact Le.nil _ | refine Le.agg ?_))) ?_); intro c122 h122
          refine AOps.st 123 rfl rfl rfl (op_move rfl rfl ?_)
          rcases bool_split h122 with ⟨rfl, g122⟩ | ⟨rfl, g122⟩
          · skip
            refine AOps.gf 124 rfl rfl rfl rfl rfl ?_
            refine AOps.gf 125 rfl rfl rfl rfl rfl ?_
            refine AOps.gf 126 rfl rfl rfl rfl rfl ?_
            refine AOps.gf 127 rfl rfl rfl rfl rfl ?_
            refine AOps.st 128 rfl rfl rfl (op_pick rfl rfl rfl ?_)
            refine AOps.st 129 rfl rfl rfl (op_move rfl rfl ?_)
            refine AOps.gt 130 rfl rfl rfl rfl rfl (op_move rfl rfl ?_)
            refine AOps.gt 131 rfl rfl rfl rfl rfl (op_callb (xs := [.tmp 130, .const (.int .u8 50)]) rfl rfl (J2) (by first | exact Les.refl _ | (repeat' (first | exact Les.refl _ | refine Les.cons ?_ ?_ | exact Le.refl _ | exact Le.own _ _ _ | exact Le.nil _ | refine Le.agg ?_))) ?_); intro c131 h131
            refine AOps.gt 132 rfl rfl rfl rfl rfl (op_move rfl rfl ?_)
            rcases bool_split h131 with ⟨rfl, g131⟩ | ⟨rfl, g131⟩
            · skip
              refine AOps.gf 133 rfl rfl rfl rfl rfl ?_
              refine AOps.gf 134 rfl rfl rfl rfl rfl ?_
              refine AOps.gf 135 rfl rfl rfl rfl rfl ?_
              refine AOps.gf 136 rfl rfl rfl rfl rfl ?_
              refine AOps.gt 137 rfl rfl rfl rfl rfl (op_pick rfl rfl rfl ?_)
              refine AOps.st 138 rfl rfl rfl (op_pick rfl rfl rfl ?_)
              refine AOps.st 139 rfl rfl rfl (op_move rfl rfl ?_)
              refine AOps.gt 140 rfl rfl rfl rfl rfl (op_move rfl rfl ?_)
              refine AOps.gt 141 rfl rfl rfl rfl rfl (op_callb (xs := [.tmp 140, .const (.int .u8 49)]) rfl rfl (J1) (by first | exact Les.refl _ | (repeat' (first | exact Les.refl _ | refine Les.cons ?_ ?_ | exact Le.refl _ | exact Le.own _ _ _ | exact Le.nil _ | refine Le.agg ?_))) ?_); intro c141 h141
              refine AOps.gt 142 rfl rfl rfl rfl rfl (op_notc rfl rfl ?_); intro c142 h142
              try replace h142 := nott h142 h141
              refine AOps.gt 143 rfl rfl rfl rfl rfl (op_move rfl rfl ?_)
              rcases bool_split h142 with ⟨rfl, g142⟩ | ⟨rfl, g142⟩
              · skip
                refine AOps.gf 144 rfl rfl rfl rfl rfl ?_
                refine AOps.gf 145 rfl rfl rfl rfl rfl ?_
                refine AOps.gf 146 rfl rfl rfl rfl rfl ?_
                refine AOps.gt 147 rfl rfl rfl rfl rfl (op_pick rfl rfl rfl ?_)
                refine AOps.gt 148 rfl rfl rfl rfl rfl (op_move rfl rfl ?_)
                refine AOps.gf 149 rfl rfl rfl rfl rfl ?_
                refine AOps.gf 150 rfl rfl rfl rfl rfl ?_
                refine AOps.gf 151 rfl rfl rfl rfl rfl ?_
                refine AOps.gt 152 rfl rfl rfl rfl rfl (op_pick rfl rfl rfl ?_)
                refine AOps.gt 153 rfl rfl rfl rfl rfl (op_move rfl rfl ?_)
                refine AOps.gf 154 rfl rfl rfl rfl rfl ?_
                refine AOps.gf 155 rfl rfl rfl rfl rfl ?_
                refine AOps.gf 156 rfl rfl rfl rfl rfl ?_
                refine AOps.gf 157 rfl rfl rfl rfl rfl ?_
                refine AOps.gt 158 rfl rfl rfl rfl rfl (op_pick rfl rfl rfl ?_)
                refine AOps.st 159 rfl rfl rfl (op_pick rfl rfl rfl ?_)
                refine AOps.nil ?_
                refine BoolQ.mk rfl ?_ (by repeat' (first | exact SLe.wo _ _ | exact SLe.refl _ | refine SLe.fresh rfl ?_)) (by first | exact MLe.none _ | exact MLe.refl _ | (repeat' (first | exact MLe.nil | exact MLe.refl _ | refine MLe.cons _ ?_ | refine MLe.drop _ ?_)))
                simp_all; done
              · skip
                refine AOps.gt 144 rfl rfl rfl rfl rfl (op_move rfl rfl ?_)
                refine AOps.gt 145 rfl rfl rfl rfl rfl (op_callb (xs := [.tmp 144, .const (.int .u8 50)]) rfl rfl (J2) (by first | exact Les.refl _ | (repeat' (first | exact Les.refl _ | refine Les.cons ?_ ?_ | exact Le.refl _ | exact Le.own _ _ _ | exact Le.nil _ | refine Le.agg ?_))) ?_); intro c145 h145
                refine AOps.gt 146 rfl rfl rfl rfl rfl (op_notc rfl rfl ?_); intro c146 h146
                try replace h146 := nott h146 h145
                refine AOps.gt 147 rfl rfl rfl rfl rfl (op_pick rfl rfl rfl ?_)
                refine AOps.gt 148 rfl rfl rfl rfl rfl (op_move rfl rfl ?_)
                rcases bool_split h146 with ⟨rfl, g146⟩ | ⟨rfl, g146⟩
                · skip
                  refine AOps.gf 149 rfl rfl rfl rfl rfl ?_
                  refine AOps.gf 150 rfl rfl rfl rfl rfl ?_
                  refine AOps.gf 151 rfl rfl rfl rfl rfl ?_
                  refine AOps.gt 152 rfl rfl rfl rfl rfl (op_pick rfl rfl rfl ?_)
                  refine AOps.gt 153 rfl rfl rfl rfl rfl (op_move rfl rfl ?_)
                  refine AOps.gf 154 rfl rfl rfl rfl rfl ?_
                  refine AOps.gf 155 rfl rfl rfl rfl rfl ?_
                  refine AOps.gf 156 rfl rfl rfl rfl rfl ?_
                  refine AOps.gf 157 rfl rfl rfl rfl rfl ?_
                  refine AOps.gt 158 rfl rfl rfl rfl rfl (op_pick rfl rfl rfl ?_)
                  refine AOps.st 159 rfl rfl rfl (op_pick rfl rfl rfl ?_)
                  refine AOps.nil ?_
                  refine BoolQ.mk rfl ?_ (by repeat' (first | exact SLe.wo _ _ | exact SLe.refl _ | refine SLe.fresh rfl ?_)) (by first | exact MLe.none _ | exact MLe.refl _ | (repeat' (first | exact MLe.nil | exact MLe.refl _ | refine MLe.cons _ ?_ | refine MLe.drop _ ?_)))
                  simp_all; done
                · skip
                  refine AOps.gt 149 rfl rfl rfl rfl rfl (op_move rfl rfl ?_)
                  refine AOps.gt 150 rfl rfl rfl rfl rfl (op_callb (xs := [.tmp 149, .const (.int .u8 108)]) rfl rfl (Jl) (by first | exact Les.refl _ | (repeat' (first | exact Les.refl _ | refine Les.cons ?_ ?_ | exact Le.refl _ | exact Le.own _ _ _ | exact Le.nil _ | refine Le.agg ?_))) ?_); intro c150 h150
                  refine AOps.gt 151 rfl rfl rfl rfl rfl (op_notc rfl rfl ?_); intro c151 h151
                  try replace h151 := nott h151 h150
                  refine AOps.gt 152 rfl rfl rfl rfl rfl (op_pick rfl rfl rfl ?_)
                  refine AOps.gt 153 rfl rfl rfl rfl rfl (op_move rfl rfl ?_)
                  rcases bool_split h151 with ⟨rfl, g151⟩ | ⟨rfl, g151⟩
                  · skip
                    refine AOps.gf 154 rfl rfl rfl rfl rfl ?_
                    refine AOps.gf 155 rfl rfl rfl rfl rfl ?_
                    refine AOps.gf 156 rfl rfl rfl rfl rfl ?_
                    refine AOps.gf 157 rfl rfl rfl rfl rfl ?_
                    refine AOps.gt 158 rfl rfl rfl rfl rfl (op_pick rfl rfl rfl ?_)
                    refine AOps.st 159 rfl rfl rfl (op_pick rfl rfl rfl ?_)
                    refine AOps.nil ?_
                    refine BoolQ.mk rfl ?_ (by repeat' (first | exact SLe.wo _ _ | exact SLe.refl _ | refine SLe.fresh rfl ?_)) (by first | exact MLe.none _ | exact MLe.refl _ | (repeat' (first | exact MLe.nil | exact MLe.refl _ | refine MLe.cons _ ?_ | refine MLe.drop _ ?_)))
                    simp_all; done
                  · skip
                    refine AOps.gt 154 rfl rfl rfl rfl rfl (op_fieldAddr_c rfl tf_46_4 rfl rfl ?_)
                    refine AOps.gt 155 rfl rfl rfl rfl rfl (op_load_c1 rfl ta_42 rfl rfl ?_)
                    refine AOps.gt 156 rfl rfl rfl rfl rfl (op_len rfl tu_42 rfl (.seq _ _) (fun n156 => ?_))
                    refine AOps.gt 157 rfl rfl rfl rfl rfl (op_gtr rfl rfl rfl ?_); intro c157 h157
                    refine AOps.gt 158 rfl rfl rfl rfl rfl (op_pick rfl rfl rfl ?_)
                    refine AOps.st 159 rfl rfl rfl (op_pick rfl rfl rfl ?_)
                    refine AOps.nil ?_
                    refine BoolQ.mk rfl ?_ (by repeat' (first | exact SLe.wo _ _ | exact SLe.refl _ | refine SLe.fresh rfl ?_)) (by first | exact MLe.none _ | exact MLe.refl _ | (repeat' (first | exact MLe.nil | exact MLe.refl _ | refine MLe.cons _ ?_ | refine MLe.drop _ ?_)))
                    first | (simp_all; done) | (rw [h157]; constructor; (intro q r; have := r.2.2 ⟨by assumption, by assumption, by assumption⟩; omega); (intro q; apply Classical.byContradiction; intro r; exact q ⟨fun z => absurd z (by assumption), fun z => absurd z (by assumption), fun _ => by omega⟩))
            · skip
              refine AOps.gt 133 rfl rfl rfl rfl rfl (op_fieldAddr_c rfl tf_46_4 rfl rfl ?_)
              refine AOps.gt 134 rfl rfl rfl rfl rfl (op_load_c1 rfl ta_42 rfl rfl ?_)
              refine AOps.gt 135 rfl rfl rfl rfl rfl (op_len rfl tu_42 rfl (.seq _ _) (fun n135 => ?_))
              refine AOps.gt 136 rfl rfl rfl rfl rfl (op_neq rfl rfl rfl ?_); intro c136 h136
              refine AOps.gt 137 rfl rfl rfl rfl rfl (op_pick rfl rfl rfl ?_)
              refine AOps.st 138 rfl rfl rfl (op_pick rfl rfl rfl ?_)
              refine AOps.st 139 rfl rfl rfl (op_move rfl rfl ?_)
              rcases bool_split h136 with ⟨rfl, g136⟩ | ⟨rfl, g136⟩
              · skip
                refine AOps.gt 140 rfl rfl rfl rfl rfl (op_move rfl rfl ?_)
                refine AOps.gt 141 rfl rfl rfl rfl rfl (op_callb (xs := [.tmp 140, .const (.int .u8 49)]) rfl rfl (J1) (by first | exact Les.refl _ | (repeat' (first | exact Les.refl _ | refine Les.cons ?_ ?_ | exact Le.refl _ | exact Le.own _ _ _ | exact Le.nil _ | refine Le.agg ?_))) ?_); intro c141 h141
                refine AOps.gt 142 rfl rfl rfl rfl rfl (op_notc rfl rfl ?_); intro c142 h142
                try replace h142 := nott h142 h141
                refine AOps.gt 143 rfl rfl rfl rfl rfl (op_move rfl rfl ?_)
                rcases bool_split h142 with ⟨rfl, g142⟩ | ⟨rfl, g142⟩
                · skip
                  refine AOps.gf 144 rfl rfl rfl rfl rfl ?_
                  refine AOps.gf 145 rfl rfl rfl rfl rfl ?_
                  refine AOps.gf 146 rfl rfl rfl rfl rfl ?_
                  refine AOps.gt 147 rfl rfl rfl rfl rfl (op_pick rfl rfl rfl ?_)
                  refine AOps.gt 148 rfl rfl rfl rfl rfl (op_move rfl rfl ?_)
                  refine AOps.gf 149 rfl rfl rfl rfl rfl ?_
                  refine AOps.gf 150 rfl rfl rfl rfl rfl ?_
                  refine AOps.gf 151 rfl rfl rfl rfl rfl ?_
                  refine AOps.gt 152 rfl rfl rfl rfl rfl (op_pick rfl rfl rfl ?_)
                  refine AOps.gt 153 rfl rfl rfl rfl rfl (op_move rfl rfl ?_)
                  refine AOps.gf 154 rfl rfl rfl rfl rfl ?_
                  refine AOps.gf 155 rfl rfl rfl rfl rfl ?_
                  refine AOps.gf 156 rfl rfl rfl rfl rfl ?_
                  refine AOps.gf 157 rfl rfl rfl rfl rfl ?_
                  refine AOps.gt 158 rfl rfl rfl rfl rfl (op_pick rfl rfl rfl ?_)
                  refine AOps.st 159 rfl rfl rfl (op_pick rfl rfl rfl ?_)
                  refine AOps.nil ?_
                  refine BoolQ.mk rfl ?_ (by repeat' (first | exact SLe.wo _ _ | exact SLe.refl _ | refine SLe.fresh rfl ?_)) (by first | exact MLe.none _ | exact MLe.refl _ | (repeat' (first | exact MLe.nil | exact MLe.refl _ | refine MLe.cons _ ?_ | refine MLe.drop _ ?_)))
                  simp_all; done
                · skip
                  refine AOps.gt 144 rfl rfl rfl rfl rfl (op_move rfl rfl ?_)
                  refine AOps.gt 145 rfl rfl rfl rfl rfl (op_callb (xs := [.tmp 144, .const (.int .u8 50)]) rfl rfl (J2) (by first | exact Les.refl _ | (repeat' (first | exact Les.refl _ | refine Les.cons ?_ ?_ | exact Le.refl _ | exact Le.own _ _ _ | exact Le.nil _ | refine Le.agg ?_))) ?_); intro c145 h145
                  refine AOps.gt 146 rfl rfl rfl rfl rfl (op_notc rfl rfl ?_); intro c146 h146
                  try replace h146 := nott h146 h145
                  refine AOps.gt 147 rfl rfl rfl rfl rfl (op_pick rfl rfl rfl ?_)
                  refine AOps.gt 148 rfl rfl rfl rfl rfl (op_move rfl rfl ?_)
                  rcases bool_split h146 with ⟨rfl, g146⟩ | ⟨rfl, g146⟩
                  · skip
                    refine AOps.gf 149 rfl rfl rfl rfl rfl ?_
                    refine AOps.gf 150 rfl rfl rfl rfl rfl ?_
                    refine AOps.gf 151 rfl rfl rfl rfl rfl ?_
                    refine AOps.gt 152 rfl rfl rfl rfl rfl (op_pick rfl rfl rfl ?_)
                    refine AOps.gt 153 rfl rfl rfl rfl rfl (op_move rfl rfl ?_)
                    refine AOps.gf 154 rfl rfl rfl rfl rfl ?_
                    refine AOps.gf 155 rfl rfl rfl rfl rfl ?_
                    refine AOps.gf 156 rfl rfl rfl rfl rfl ?_
                    refine AOps.gf 157 rfl rfl rfl rfl rfl ?_
                    refine AOps.gt 158 rfl rfl rfl rfl rfl (op_pick rfl rfl rfl ?_)
                    refine AOps.st 159 rfl rfl rfl (op_pick rfl rfl rfl ?_)
                    refine AOps.nil ?_
                    refine BoolQ.mk rfl ?_ (by repeat' (first | exact SLe.wo _ _ | exact SLe.refl _ | refine SLe.fresh rfl ?_)) (by first | exact MLe.none _ | exact MLe.refl _ | (repeat' (first | exact MLe.nil | exact MLe.refl _ | refine MLe.cons _ ?_ | refine MLe.drop _ ?_)))
                    first | (simp_all; done) | (rw [h157]; constructor; (intro q r; have := r.2.2 ⟨by assumption, by assumption, by assumption⟩; omega); (intro q; apply Classical.byContradiction; intro r; exact q ⟨fun z => absurd z (by assumption), fun z => absurd z (by assumption), fun _ => by omega⟩)) | (simp_all; omega)
                  · skip
                    refine AOps.gt 149 rfl rfl rfl rfl rfl (op_move rfl rfl ?_)
                    refine AOps.gt 150 rfl rfl rfl rfl rfl (op_callb (xs := [.tmp 149, .const (.int .u8 108)]) rfl rfl (Jl) (by first | exact Les.refl _ | (repeat' (first | exact Les.refl _ | refine Les.cons ?_ ?_ | exact Le.refl _ | exact Le.own _ _ _ | exact Le.nil _ | refine Le.agg ?_))) ?_); intro c150 h150
                    refine AOps.gt 151 rfl rfl rfl rfl rfl (op_notc rfl rfl ?_); intro c151 h151
                    try replace h151 := nott h151 h150
                    refine AOps.gt 152 rfl rfl rfl rfl rfl (op_pick rfl rfl rfl ?_)
                    refine AOps.gt 153 rfl rfl rfl rfl rfl (op_move rfl rfl ?_)
                    rcases bool_split h151 with ⟨rfl, g151⟩ | ⟨rfl, g151⟩
                    · skip
                      refine AOps.gf 154 rfl rfl rfl rfl rfl ?_
                      refine AOps.gf 155 rfl rfl rfl rfl rfl ?_
                      refine AOps.gf 156 rfl rfl rfl rfl rfl ?_
                      refine AOps.gf 157 rfl rfl rfl rfl rfl ?_
                      refine AOps.gt 158 rfl rfl rfl rfl rfl (op_pick rfl rfl rfl ?_)
                      refine AOps.st 159 rfl rfl rfl (op_pick rfl rfl rfl ?_)
                      refine AOps.nil ?_
                      refine BoolQ.mk rfl ?_ (by repeat' (first | exact SLe.wo _ _ | exact SLe.refl _ | refine SLe.fresh rfl ?_)) (by first | exact MLe.none _ | exact MLe.refl _ | (repeat' (first | exact MLe.nil | exact MLe.refl _ | refine MLe.cons _ ?_ | refine MLe.drop _ ?_)))
                      simp_all; done
                    · skip
                      refine AOps.gt 154 rfl rfl rfl rfl rfl (op_fieldAddr_c rfl tf_46_4 rfl rfl ?_)
                      refine AOps.gt 155 rfl rfl rfl rfl rfl (op_load_c1 rfl ta_42 rfl rfl ?_)
                      refine AOps.gt 156 rfl rfl rfl rfl rfl (op_len rfl tu_42 rfl (.seq _ _) (fun n156 => ?_))
                      refine AOps.gt 157 rfl rfl rfl rfl rfl (op_gtr rfl rfl rfl ?_); intro c157 h157
                      refine AOps.gt 158 rfl rfl rfl rfl rfl (op_pick rfl rfl rfl ?_)
                      refine AOps.st 159 rfl rfl rfl (op_pick rfl rfl rfl ?_)
                      refine AOps.nil ?_
                      refine BoolQ.mk rfl ?_ (by repeat' (first | exact SLe.wo _ _ | exact SLe.refl _ | refine SLe.fresh rfl ?_)) (by first | exact MLe.none _ | exact MLe.refl _ | (repeat' (first | exact MLe.nil | exact MLe.refl _ | refine MLe.cons _ ?_ | refine MLe.drop _ ?_)))
                      simp_all; done
              · skip
                refine AOps.gf 140 rfl rfl rfl rfl rfl ?_
                refine AOps.gf 141 rfl rfl rfl rfl rfl ?_
                refine AOps.gf 142 rfl rfl rfl rfl rfl ?_
                refine AOps.gf 143 rfl rfl rfl rfl rfl ?_
                refine AOps.gu 144 rfl rfl rfl rfl rfl ?_
                refine AOps.gu 145 rfl rfl rfl rfl rfl ?_
                refine AOps.gu 146 rfl rfl rfl rfl rfl ?_
                refine AOps.gf 147 rfl rfl rfl rfl rfl ?_
                refine AOps.gf 148 rfl rfl rfl rfl rfl ?_
                refine AOps.gu 149 rfl rfl rfl rfl rfl ?_
                refine AOps.gu 150 rfl rfl rfl rfl rfl ?_
                refine AOps.gu 151 rfl rfl rfl rfl rfl ?_
                refine AOps.gf 152 rfl rfl rfl rfl rfl ?_
                refine AOps.gf 153 rfl rfl rfl rfl rfl ?_
                refine AOps.gu 154 rfl rfl rfl rfl rfl ?_
                refine AOps.gu 155 rfl rfl rfl rfl rfl ?_
                refine AOps.gu 156 rfl rfl rfl rfl rfl ?_
                refine AOps.gu 157 rfl rfl rfl rfl rfl ?_
                refine AOps.gf 158 rfl rfl rfl rfl rfl ?_
                refine AOps.st 159 rfl rfl rfl (op_pick rfl rfl rfl ?_)
                refine AOps.nil ?_
                refine BoolQ.mk rfl ?_ (by repeat' (first | exact SLe.wo _ _ | exact SLe.refl _ | refine SLe.fresh rfl ?_)) (by first | exact MLe.none _ | exact MLe.refl _ | (repeat' (first | exact MLe.nil | exact MLe.refl _ | refine MLe.cons _ ?_ | refine MLe.drop _ ?_)))
                first | (simp_all; done) | (rw [h157]; constructor; (intro q r; have := r.2.2 ⟨by assumption, by assumption, by assumption⟩; omega); (intro q; apply Classical.byContradiction; intro r; exact q ⟨fun z => absurd z (by assumption), fun z => absurd z (by assumption), fun _ => by omega⟩)) | (simp_all; omega)
          · skip
            refine AOps.gt 124 rfl rfl rfl rfl rfl (op_fieldAddr_c rfl tf_46_4 rfl rfl ?_)
            refine AOps.gt 125 rfl rfl rfl rfl rfl (op_load_c1 rfl ta_42 rfl rfl ?_)
            refine AOps.gt 126 rfl rfl rfl rfl rfl (op_len rfl tu_42 rfl (.seq _ _) (fun n126 => ?_))
            refine AOps.gt 127 rfl rfl rfl rfl rfl (op_neq rfl rfl rfl ?_); intro c127 h127
            refine AOps.st 128 rfl rfl rfl (op_pick rfl rfl rfl ?_)
            refine AOps.st 129 rfl rfl rfl (op_move rfl rfl ?_)
            rcases bool_split h127 with ⟨rfl, g127⟩ | ⟨rfl, g127⟩
            · skip
              refine AOps.gt 130 rfl rfl rfl rfl rfl (op_move rfl rfl ?_)
              refine AOps.gt 131 rfl rfl rfl rfl rfl (op_callb (xs := [.tmp 130, .const (.int .u8 50)]) rfl rfl (J2) (by first | exact Les.refl _ | (repeat' (first | exact Les.refl _ | refine Les.cons ?_ ?_ | exact Le.refl _ | exact Le.own _ _ _ | exact Le.nil _ | refine Le.agg ?_))) ?_); intro c131 h131
              refine AOps.gt 132 rfl rfl rfl rfl rfl (op_move rfl rfl ?_)
              rcases bool_split h131 with ⟨rfl, g131⟩ | ⟨rfl, g131⟩
              · skip
                refine AOps.gf 133 rfl rfl rfl rfl rfl ?_
                refine AOps.gf 134 rfl rfl rfl rfl rfl ?_
                refine AOps.gf 135 rfl rfl rfl rfl rfl ?_
                refine AOps.gf 136 rfl rfl rfl rfl rfl ?_
                refine AOps.gt 137 rfl rfl rfl rfl rfl (op_pick rfl rfl rfl ?_)
                refine AOps.st 138 rfl rfl rfl (op_pick rfl rfl rfl ?_)
                refine AOps.st 139 rfl rfl rfl (op_move rfl rfl ?_)
                refine AOps.gt 140 rfl rfl rfl rfl rfl (op_move rfl rfl ?_)
                refine AOps.gt 141 rfl rfl rfl rfl rfl (op_callb (xs := [.tmp 140, .const (.int .u8 49)]) rfl rfl (J1) (by first | exact Les.refl _ | (repeat' (first | exact Les.refl _ | refine Les.cons ?_ ?_ | exact Le.refl _ | exact Le.own _ _ _ | exact Le.nil _ | refine Le.agg ?_))) ?_); intro c141 h141
                refine AOps.gt 142 rfl rfl rfl rfl rfl (op_notc rfl rfl ?_); intro c142 h142
                try replace h142 := nott h142 h141
                refine AOps.gt 143 rfl rfl rfl rfl rfl (op_move rfl rfl ?_)
                rcases bool_split h142 with ⟨rfl, g142⟩ | ⟨rfl, g142⟩
                · skip
                  refine AOps.gf 144 rfl rfl rfl rfl rfl ?_
                  refine AOps.gf 145 rfl rfl rfl rfl rfl ?_
                  refine AOps.gf 146 rfl rfl rfl rfl rfl ?_
                  refine AOps.gt 147 rfl rfl rfl rfl rfl (op_pick rfl rfl rfl ?_)
                  refine AOps.gt 148 rfl rfl rfl rfl rfl (op_move rfl rfl ?_)
                  refine AOps.gf 149 rfl rfl rfl rfl rfl ?_
                  refine AOps.gf 150 rfl rfl rfl rfl rfl ?_
                  refine AOps.gf 151 rfl rfl rfl rfl rfl ?_
                  refine AOps.gt 152 rfl rfl rfl rfl rfl (op_pick rfl rfl rfl ?_)
                  refine AOps.gt 153 rfl rfl rfl rfl rfl (op_move rfl rfl ?_)
                  refine AOps.gf 154 rfl rfl rfl rfl rfl ?_
                  refine AOps.gf 155 rfl rfl rfl rfl rfl ?_
                  refine AOps.gf 156 rfl rfl rfl rfl rfl ?_
                  refine AOps.gf 157 rfl rfl rfl rfl rfl ?_
                  refine AOps.gt 158 rfl rfl rfl rfl rfl (op_pick rfl rfl rfl ?_)
                  refine AOps.st 159 rfl rfl rfl (op_pick rfl rfl rfl ?_)
                  refine AOps.nil ?_
                  refine BoolQ.mk rfl ?_ (by repeat' (first | exact SLe.wo _ _ | exact SLe.refl _ | refine SLe.fresh rfl ?_)) (by first | exact MLe.none _ | exact MLe.refl _ | (repeat' (first | exact MLe.nil | exact MLe.refl _ | refine MLe.cons _ ?_ | refine MLe.drop _ ?_)))
                  first | (simp_all; done) | (rw [h157]; constructor; (intro q r; have := r.2.2 ⟨by assumption, by assumption, by assumption⟩; omega); (intro q; apply Classical.byContradiction; intro r; exact q ⟨fun z => absurd z (by assumption), fun z => absurd z (by assumption), fun _ => by omega⟩)) | (simp_all; omega)
                · skip
                  refine AOps.gt 144 rfl rfl rfl rfl rfl (op_move rfl rfl ?_)
                  refine AOps.gt 145 rfl rfl rfl rfl rfl (op_callb (xs := [.tmp 144, .const (.int .u8 50)]) rfl rfl (J2) (by first | exact Les.refl _ | (repeat' (first | exact Les.refl _ | refine Les.cons ?_ ?_ | exact Le.refl _ | exact Le.own _ _ _ | exact Le.nil _ | refine Le.agg ?_))) ?_); intro c145 h145
                  refine AOps.gt 146 rfl rfl rfl rfl rfl (op_notc rfl rfl ?_); intro c146 h146
                  try replace h146 := nott h146 h145
                  refine AOps.gt 147 rfl rfl rfl rfl rfl (op_pick rfl rfl rfl ?_)
                  refine AOps.gt 148 rfl rfl rfl rfl rfl (op_move rfl rfl ?_)
                  rcases bool_split h146 with ⟨rfl, g146⟩ | ⟨rfl, g146⟩
                  · skip
                    refine AOps.gf 149 rfl rfl rfl rfl rfl ?_
                    refine AOps.gf 150 rfl rfl rfl rfl rfl ?_
                    refine AOps.gf 151 rfl rfl rfl rfl rfl ?_
                    refine AOps.gt 152 rfl rfl rfl rfl rfl (op_pick rfl rfl rfl ?_)
                    refine AOps.gt 153 rfl rfl rfl rfl rfl (op_move rfl rfl ?_)
                    refine AOps.gf 154 rfl rfl rfl rfl rfl ?_
                    refine AOps.gf 155 rfl rfl rfl rfl rfl ?_
                    refine AOps.gf 156 rfl rfl rfl rfl rfl ?_
                    refine AOps.gf 157 rfl rfl rfl rfl rfl ?_
                    refine AOps.gt 158 rfl rfl rfl rfl rfl (op_pick rfl rfl rfl ?_)
                    refine AOps.st 159 rfl rfl rfl (op_pick rfl rfl rfl ?_)
                    refine AOps.nil ?_
                    refine BoolQ.mk rfl ?_ (by repeat' (first | exact SLe.wo _ _ | exact SLe.refl _ | refine SLe.fresh rfl ?_)) (by first | exact MLe.none _ | exact MLe.refl _ | (repeat' (first | exact MLe.nil | exact MLe.refl _ | refine MLe.cons _ ?_ | refine MLe.drop _ ?_)))
                    simp_all; done
                  · skip
                    refine AOps.gt 149 rfl rfl rfl rfl rfl (op_move rfl rfl ?_)
                    refine AOps.gt 150 rfl rfl rfl rfl rfl (op_callb (xs := [.tmp 149, .const (.int .u8 108)]) rfl rfl (Jl) (by first | exact Les.refl _ | (repeat' (first | exact Les.refl _ | refine Les.cons ?_ ?_ | exact Le.refl _ | exact Le.own _ _ _ | exact Le.nil _ | refine Le.agg ?_))) ?_); intro c150 h150
                    refine AOps.gt 151 rfl rfl rfl rfl rfl (op_notc rfl rfl ?_); intro c151 h151
                    try replace h151 := nott h151 h150
                    refine AOps.gt 152 rfl rfl rfl rfl rfl (op_pick rfl rfl rfl ?_)
                    refine AOps.gt 153 rfl rfl rfl rfl rfl (op_move rfl rfl ?_)
                    rcases bool_split h151 with ⟨rfl, g151⟩ | ⟨rfl, g151⟩
                    · skip
                      refine AOps.gf 154 rfl rfl rfl rfl rfl ?_
                      refine AOps.gf 155 rfl rfl rfl rfl rfl ?_
                      refine AOps.gf 156 rfl rfl rfl rfl rfl ?_
                      refine AOps.gf 157 rfl rfl rfl rfl rfl ?_
                      refine AOps.gt 158 rfl rfl rfl rfl rfl (op_pick rfl rfl rfl ?_)
                      refine AOps.st 159 rfl rfl rfl (op_pick rfl rfl rfl ?_)
                      refine AOps.nil ?_
                      refine BoolQ.mk rfl ?_ (by repeat' (first | exact SLe.wo _ _ | exact SLe.refl _ | refine SLe.fresh rfl ?_)) (by first | exact MLe.none _ | exact MLe.refl _ | (repeat' (first | exact MLe.nil | exact MLe.refl _ | refine MLe.cons _ ?_ | refine MLe.drop _ ?_)))
                      simp_all; done
                    · skip
                      refine AOps.gt 154 rfl rfl rfl rfl rfl (op_fieldAddr_c rfl tf_46_4 rfl rfl ?_)
                      refine AOps.gt 155 rfl rfl rfl rfl rfl (op_load_c1 rfl ta_42 rfl rfl ?_)
                      refine AOps.gt 156 rfl rfl rfl rfl rfl (op_len rfl tu_42 rfl (.seq _ _) (fun n156 => ?_))
                      refine AOps.gt 157 rfl rfl rfl rfl rfl (op_gtr rfl rfl rfl ?_); intro c157 h157
                      refine AOps.gt 158 rfl rfl rfl rfl rfl (op_pick rfl rfl rfl ?_)
                      refine AOps.st 159 rfl rfl rfl (op_pick rfl rfl rfl ?_)
                      refine AOps.nil ?_
                      refine BoolQ.mk rfl ?_ (by repeat' (first | exact SLe.wo _ _ | exact SLe.refl _ | refine SLe.fresh rfl ?_)) (by first | exact MLe.none _ | exact MLe.refl _ | (repeat' (first | exact MLe.nil | exact MLe.refl _ | refine MLe.cons _ ?_ | refine MLe.drop _ ?_)))
                      simp_all; done
              · skip
                refine AOps.gt 133 rfl rfl rfl rfl rfl (op_fieldAddr_c rfl tf_46_4 rfl rfl ?_)
                refine AOps.gt 134 rfl rfl rfl rfl rfl (op_load_c1 rfl ta_42 rfl rfl ?_)
                refine AOps.gt 135 rfl rfl rfl rfl rfl (op_len rfl tu_42 rfl (.seq _ _) (fun n135 => ?_))
                refine AOps.gt 136 rfl rfl rfl rfl rfl (op_neq rfl rfl rfl ?_); intro c136 h136
                refine AOps.gt 137 rfl rfl rfl rfl rfl (op_pick rfl rfl rfl ?_)
                refine AOps.st 138 rfl rfl rfl (op_pick rfl rfl rfl ?_)
                refine AOps.st 139 rfl rfl rfl (op_move rfl rfl ?_)
                rcases bool_split h136 with ⟨rfl, g136⟩ | ⟨rfl, g136⟩
                · skip
                  refine AOps.gt 140 rfl rfl rfl rfl rfl (op_move rfl rfl ?_)
                  refine AOps.gt 141 rfl rfl rfl rfl rfl (op_callb (xs := [.tmp 140, .const (.int .u8 49)]) rfl rfl (J1) (by first | exact Les.refl _ | (repeat' (first | exact Les.refl _ | refine Les.cons ?_ ?_ | exact Le.refl _ | exact Le.own _ _ _ | exact Le.nil _ | refine Le.agg ?_))) ?_); intro c141 h141
                  refine AOps.gt 142 rfl rfl rfl rfl rfl (op_notc rfl rfl ?_); intro c142 h142
                  try replace h142 := nott h142 h141
                  refine AOps.gt 143 rfl rfl rfl rfl rfl (op_move rfl rfl ?_)
                  rcases bool_split h142 with ⟨rfl, g142⟩ | ⟨rfl, g142⟩
                  · skip
                    refine AOps.gf 144 rfl rfl rfl rfl rfl ?_
                    refine AOps.gf 145 rfl rfl rfl rfl rfl ?_
                    refine AOps.gf 146 rfl rfl rfl rfl rfl ?_
                    refine AOps.gt 147 rfl rfl rfl rfl rfl (op_pick rfl rfl rfl ?_)
                    refine AOps.gt 148 rfl rfl rfl rfl rfl (op_move rfl rfl ?_)
                    refine AOps.gf 149 rfl rfl rfl rfl rfl ?_
                    refine AOps.gf 150 rfl rfl rfl rfl rfl ?_
                    refine AOps.gf 151 rfl rfl rfl rfl rfl ?_
                    refine AOps.gt 152 rfl rfl rfl rfl rfl (op_pick rfl rfl rfl ?_)
                    refine AOps.gt 153 rfl rfl rfl rfl rfl (op_move rfl rfl ?_)
                    refine AOps.gf 154 rfl rfl rfl rfl rfl ?_
                    refine AOps.gf 155 rfl rfl rfl rfl rfl ?_
                    refine AOps.gf 156 rfl rfl rfl rfl rfl ?_
                    refine AOps.gf 157 rfl rfl rfl rfl rfl ?_
                    refine AOps.gt 158 rfl rfl rfl rfl rfl (op_pick rfl rfl rfl ?_)
                    refine AOps.st 159 rfl rfl rfl (op_pick rfl rfl rfl ?_)
                    refine AOps.nil ?_
                    refine BoolQ.mk rfl ?_ (by repeat' (first | exact SLe.wo _ _ | exact SLe.refl _ | refine SLe.fresh rfl ?_)) (by first | exact MLe.none _ | exact MLe.refl _ | (repeat' (first | exact MLe.nil | exact MLe.refl _ | refine MLe.cons _ ?_ | refine MLe.drop _ ?_)))
                    simp_all; done
                  · skip
                    refine AOps.gt 144 rfl rfl rfl rfl rfl (op_move rfl rfl ?_)
                    refine AOps.gt 145 rfl rfl rfl rfl rfl (op_callb (xs := [.tmp 144, .const (.int .u8 50)]) rfl rfl (J2) (by first | exact Les.refl _ | (repeat' (first | exact Les.refl _ | refine Les.cons ?_ ?_ | exact Le.refl _ | exact Le.own _ _ _ | exact Le.nil _ | refine Le.agg ?_))) ?_); intro c145 h145
                    refine AOps.gt 146 rfl rfl rfl rfl rfl (op_notc rfl rfl ?_); intro c146 h146
                    try replace h146 := nott h146 h145
                    refine AOps.gt 147 rfl rfl rfl rfl rfl (op_pick rfl rfl rfl ?_)
                    refine AOps.gt 148 rfl rfl rfl rfl rfl (op_move rfl rfl ?_)
                    rcases bool_split h146 with ⟨rfl, g146⟩ | ⟨rfl, g146⟩
                    · skip
                      refine AOps.gf 149 rfl rfl rfl rfl rfl ?_
                      refine AOps.gf 150 rfl rfl rfl rfl rfl ?_
                      refine AOps.gf 151 rfl rfl rfl rfl rfl ?_
                      refine AOps.gt 152 rfl rfl rfl rfl rfl (op_pick rfl rfl rfl ?_)
                      refine AOps.gt 153 rfl rfl rfl rfl rfl (op_move rfl rfl ?_)
                      refine AOps.gf 154 rfl rfl rfl rfl rfl ?_
                      refine AOps.gf 155 rfl rfl rfl rfl rfl ?_
                      refine AOps.gf 156 rfl rfl rfl rfl rfl ?_
                      refine AOps.gf 157 rfl rfl rfl rfl rfl ?_
                      refine AOps.gt 158 rfl rfl rfl rfl rfl (op_pick rfl rfl rfl ?_)
                      refine AOps.st 159 rfl rfl rfl (op_pick rfl rfl rfl ?_)
                      refine AOps.nil ?_
                      refine BoolQ.mk rfl ?_ (by repeat' (first | exact SLe.wo _ _ | exact SLe.refl _ | refine SLe.fresh rfl ?_)) (by first | exact MLe.none _ | exact MLe.refl _ | (repeat' (first | exact MLe.nil | exact MLe.refl _ | refine MLe.cons _ ?_ | refine MLe.drop _ ?_)))
                      simp_all; done
                    · skip
                      refine AOps.gt 149 rfl rfl rfl rfl rfl (op_move rfl rfl ?_)
                      refine AOps.gt 150 rfl rfl rfl rfl rfl (op_callb (xs := [.tmp 149, .const (.int .u8 108)]) rfl rfl (Jl) (by first | exact Les.refl _ | (repeat' (first | exact Les.refl _ | refine Les.cons ?_ ?_ | exact Le.refl _ | exact Le.own _ _ _ | exact Le.nil _ | refine Le.agg ?_))) ?_); intro c150 h150
                      refine AOps.gt 151 rfl rfl rfl rfl rfl (op_notc rfl rfl ?_); intro c151 h151
                      try replace h151 := nott h151 h150
                      refine AOps.gt 152 rfl rfl rfl rfl rfl (op_pick rfl rfl rfl ?_)
                      refine AOps.gt 153 rfl rfl rfl rfl rfl (op_move rfl rfl ?_)
                      rcases bool_split h151 with ⟨rfl, g151⟩ | ⟨rfl, g151⟩
                      · skip
                        refine AOps.gf 154 rfl rfl rfl rfl rfl ?_
                        refine AOps.gf 155 rfl rfl rfl rfl rfl ?_
                        refine AOps.gf 156 rfl rfl rfl rfl rfl ?_
                        refine AOps.gf 157 rfl rfl rfl rfl rfl ?_
                        refine AOps.gt 158 rfl rfl rfl rfl rfl (op_pick rfl rfl rfl ?_)
                        refine AOps.st 159 rfl rfl rfl (op_pick rfl rfl rfl ?_)
                        refine AOps.nil ?_
                        refine BoolQ.mk rfl ?_ (by repeat' (first | exact SLe.wo _ _ | exact SLe.refl _ | refine SLe.fresh rfl ?_)) (by first | exact MLe.none _ | exact MLe.refl _ | (repeat' (first | exact MLe.nil | exact MLe.refl _ | refine MLe.cons _ ?_ | refine MLe.drop _ ?_)))
                        simp_all; done
                      · skip
                        refine AOps.gt 154 rfl rfl rfl rfl rfl (op_fieldAddr_c rfl tf_46_4 rfl rfl ?_)
                        refine AOps.gt 155 rfl rfl rfl rfl rfl (op_load_c1 rfl ta_42 rfl rfl ?_)
                        refine AOps.gt 156 rfl rfl rfl rfl rfl (op_len rfl tu_42 rfl (.seq _ _) (fun n156 => ?_))
                        refine AOps.gt 157 rfl rfl rfl rfl rfl (op_gtr rfl rfl rfl ?_); intro c157 h157
                        refine AOps.gt 158 rfl rfl rfl rfl rfl (op_pick rfl rfl rfl ?_)
                        refine AOps.st 159 rfl rfl rfl (op_pick rfl rfl rfl ?_)
                        refine AOps.nil ?_
                        refine BoolQ.mk rfl ?_ (by repeat' (first | exact SLe.wo _ _ | exact SLe.refl _ | refine SLe.fresh rfl ?_)) (by first | exact MLe.none _ | exact MLe.refl _ | (repeat' (first | exact MLe.nil | exact MLe.refl _ | refine MLe.cons _ ?_ | refine MLe.drop _ ?_)))
                        simp_all; done
                · skip
                  refine AOps.gf 140 rfl rfl rfl rfl rfl ?_
                  refine AOps.gf 141 rfl rfl rfl rfl rfl ?_
                  refine AOps.gf 142 rfl rfl rfl rfl rfl ?_
                  refine AOps.gf 143 rfl rfl rfl rfl rfl ?_
                  refine AOps.gu 144 rfl rfl rfl rfl rfl ?_
                  refine AOps.gu 145 rfl rfl rfl rfl rfl ?_
                  refine AOps.gu 146 rfl rfl rfl rfl rfl ?_
                  refine AOps.gf 147 rfl rfl rfl rfl rfl ?_
                  refine AOps.gf 148 rfl rfl rfl rfl rfl ?_
                  refine AOps.gu 149 rfl rfl rfl rfl rfl ?_
                  refine AOps.gu 150 rfl rfl rfl rfl rfl ?_
                  refine AOps.gu 151 rfl rfl rfl rfl rfl ?_
                  refine AOps.gf 152 rfl rfl rfl rfl rfl ?_
                  refine AOps.gf 153 rfl rfl rfl rfl rfl ?_
                  refine AOps.gu 154 rfl rfl rfl rfl rfl ?_
                  refine AOps.gu 155 rfl rfl rfl rfl rfl ?_
                  refine AOps.gu 156 rfl rfl rfl rfl rfl ?_
                  refine AOps.gu 157 rfl rfl rfl rfl rfl ?_
                  refine AOps.gf 158 rfl rfl rfl rfl rfl ?_
                  refine AOps.st 159 rfl rfl rfl (op_pick rfl rfl rfl ?_)
                  refine AOps.nil ?_
                  refine BoolQ.mk rfl ?_ (by repeat' (first | exact SLe.wo _ _ | exact SLe.refl _ | refine SLe.fresh rfl ?_)) (by first | exact MLe.none _ | exact MLe.refl _ | (repeat' (first | exact MLe.nil | exact MLe.refl _ | refine MLe.cons _ ?_ | refine MLe.drop _ ?_)))
                  simp_all; done
            · skip
              refine AOps.gf 130 rfl rfl rfl rfl rfl ?_
              refine AOps.gf 131 rfl rfl rfl rfl rfl ?_
              refine AOps.gf 132 rfl rfl rfl rfl rfl ?_
              refine AOps.gu 133 rfl rfl rfl rfl rfl ?_
              refine AOps.gu 134 rfl rfl rfl rfl rfl ?_
              refine AOps.gu 135 rfl rfl rfl rfl rfl ?_
              refine AOps.gu 136 rfl rfl rfl rfl rfl ?_
              refine AOps.gf 137 rfl rfl rfl rfl rfl ?_
              refine AOps.st 138 rfl rfl rfl (op_pick rfl rfl rfl ?_)
              refine AOps.st 139 rfl rfl rfl (op_move rfl rfl ?_)
              refine AOps.gf 140 rfl rfl rfl rfl rfl ?_
              refine AOps.gf 141 rfl rfl rfl rfl rfl ?_
              refine AOps.gf 142 rfl rfl rfl rfl rfl ?_
              refine AOps.gf 143 rfl rfl rfl rfl rfl ?_
              refine AOps.gu 144 rfl rfl rfl rfl rfl ?_
              refine AOps.gu 145 rfl rfl rfl rfl rfl ?_
              refine AOps.gu 146 rfl rfl rfl rfl rfl ?_
              refine AOps.gf 147 rfl rfl rfl rfl rfl ?_
              refine AOps.gf 148 rfl rfl rfl rfl rfl ?_
              refine AOps.gu 149 rfl rfl rfl rfl rfl ?_
              refine AOps.gu 150 rfl rfl rfl rfl rfl ?_
              refine AOps.gu 151 rfl rfl rfl rfl rfl ?_
              refine AOps.gf 152 rfl rfl rfl rfl rfl ?_
              refine AOps.gf 153 rfl rfl rfl rfl rfl ?_
              refine AOps.gu 154 rfl rfl rfl rfl rfl ?_
              refine AOps.gu 155 rfl rfl rfl rfl rfl ?_
              refine AOps.gu 156 rfl rfl rfl rfl rfl ?_
              refine AOps.gu 157 rfl rfl rfl rfl rfl ?_
              refine AOps.gf 158 rfl rfl rfl rfl rfl ?_
              refine AOps.st 159 rfl rfl rfl (op_pick rfl rfl rfl ?_)
              refine AOps.nil ?_
              refine BoolQ.mk rfl ?_ (by repeat' (first | exact SLe.wo _ _ | exact SLe.refl _ | refine SLe.fresh rfl ?_)) (by first | exact MLe.none _ | exact MLe.refl _ | (repeat' (first | exact MLe.nil | exact MLe.refl _ | refine MLe.cons _ ?_ | refine MLe.drop _ ?_)))
              first | (simp_all; done) | (rw [h157]; constructor; (intro q r; have := r.2.2 ⟨by assumption, by assumption, by assumption⟩; omega); (intro q; apply Classical.byContradiction; intro r; exact q ⟨fun z => absurd z (by assumption), fun z => absurd z (by assumption), fun _ => by omega⟩)) | (simp_all; omega)
        intro c159 h159
        refine go_code ?_
        rcases bool_split h159 with ⟨rfl, g159⟩ | ⟨rfl, g159⟩
        · refine c_cond_f rfl ?_
          refine c_skip ?_
          refine go_code ?_
          refine c_seq ?_
          refine c_seq ?_
          have e5 := Classical.not_not.1 g159
          refine c_bool 198 (¬ ((op = 3 → ar.length ≠ 0 ∧ 0 ≤ n ∧ n ≤ 65535) ∧ (op = 9 ∨ op = 12 → 0 ≤ n ∧ n ≤ 1048576))) ?_ _ _ rfl ?_
          · skip
            refine AOps.st 160 rfl rfl rfl (op_fieldAddr_c rfl tf_46_0 rfl rfl ?_)
            refine AOps.st 161 rfl rfl rfl (op_load_c1 rfl ta_3 rfl rfl ?_)
            refine AOps.st 162 rfl rfl rfl (op_eql rfl rfl rfl ?_); intro c162 h162
            refine AOps.st 163 rfl rfl rfl (op_move rfl rfl ?_)
            rcases bool_split h162 with ⟨rfl, g162⟩ | ⟨rfl, g162⟩
            · skip
              refine AOps.gf 164 rfl rfl rfl rfl rfl ?_
              refine AOps.gf 165 rfl rfl rfl rfl rfl ?_
              refine AOps.gf 166 rfl rfl rfl rfl rfl ?_
              refine AOps.gf 167 rfl rfl rfl rfl rfl ?_
              refine AOps.gf 168 rfl rfl rfl rfl rfl ?_
              refine AOps.gu 169 rfl rfl rfl rfl rfl ?_
              refine AOps.gu 170 rfl rfl rfl rfl rfl ?_
              refine AOps.gu 171 rfl rfl rfl rfl rfl ?_
              refine AOps.gf 172 rfl rfl rfl rfl rfl ?_
              refine AOps.gf 173 rfl rfl rfl rfl rfl ?_
              refine AOps.gu 174 rfl rfl rfl rfl rfl ?_
              refine AOps.gu 175 rfl rfl rfl rfl rfl ?_
              refine AOps.gu 176 rfl rfl rfl rfl rfl ?_
              refine AOps.gf 177 rfl rfl rfl rfl rfl ?_
              refine AOps.st 178 rfl rfl rfl (op_pick rfl rfl rfl ?_)
              refine AOps.st 179 rfl rfl rfl (op_move rfl rfl ?_)
              refine AOps.gt 180 rfl rfl rfl rfl rfl (op_fieldAddr_c rfl tf_46_0 rfl rfl ?_)
              refine AOps.gt 181 rfl rfl rfl rfl rfl (op_load_c1 rfl ta_3 rfl rfl ?_)
              refine AOps.gt 182 rfl rfl rfl rfl rfl (op_eql rfl rfl rfl ?_); intro c182 h182
              refine AOps.gt 183 rfl rfl rfl rfl rfl (op_move rfl rfl ?_)
              rcases bool_split h182 with ⟨rfl, g182⟩ | ⟨rfl, g182⟩
              · skip
                refine AOps.gt 184 rfl rfl rfl rfl rfl (op_fieldAddr_c rfl tf_46_0 rfl rfl ?_)
                refine AOps.gt 185 rfl rfl rfl rfl rfl (op_load_c1 rfl ta_3 rfl rfl ?_)
                refine AOps.gt 186 rfl rfl rfl rfl rfl (op_eql rfl rfl rfl ?_); intro c186 h186
                refine AOps.gt 187 rfl rfl rfl rfl rfl (op_pick rfl rfl rfl ?_)
                refine AOps.gt 188 rfl rfl rfl rfl rfl (op_move rfl rfl ?_)
                rcases bool_split h186 with ⟨rfl, g186⟩ | ⟨rfl, g186⟩
                · skip
                  refine AOps.gf 189 rfl rfl rfl rfl rfl ?_
                  refine AOps.gf 190 rfl rfl rfl rfl rfl ?_
                  refine AOps.gf 191 rfl rfl rfl rfl rfl ?_
                  refine AOps.gf 192 rfl rfl rfl rfl rfl ?_
                  refine AOps.gu 193 rfl rfl rfl rfl rfl ?_
                  refine AOps.gu 194 rfl rfl rfl rfl rfl ?_
                  refine AOps.gu 195 rfl rfl rfl rfl rfl ?_
                  refine AOps.gf 196 rfl rfl rfl rfl rfl ?_
                  refine AOps.gt 197 rfl rfl rfl rfl rfl (op_pick rfl rfl rfl ?_)
                  refine AOps.st 198 rfl rfl rfl (op_pick rfl rfl rfl ?_)
                  refine AOps.nil ?_
                  refine BoolQ.mk rfl ?_ (by repeat' (first | exact SLe.wo _ _ | exact SLe.refl _ | refine SLe.fresh rfl ?_)) (by first | exact MLe.none _ | exact MLe.refl _ | (repeat' (first | exact MLe.nil | exact MLe.refl _ | refine MLe.cons _ ?_ | refine MLe.drop _ ?_)))
                  simp_all; done
                · skip
                  refine AOps.gt 189 rfl rfl rfl rfl rfl (op_fieldAddr_c rfl tf_46_3 rfl rfl ?_)
                  refine AOps.gt 190 rfl rfl rfl rfl rfl (op_load_c1 rfl ta_2 rfl rfl ?_)
                  refine AOps.gt 191 rfl rfl rfl rfl rfl (op_lss rfl rfl rfl ?_); intro c191 h191
                  refine AOps.gt 192 rfl rfl rfl rfl rfl (op_move rfl rfl ?_)
                  rcases bool_split h191 with ⟨rfl, g191⟩ | ⟨rfl, g191⟩
                  · skip
                    refine AOps.gt 193 rfl rfl rfl rfl rfl (op_fieldAddr_c rfl tf_46_3 rfl rfl ?_)
                    refine AOps.gt 194 rfl rfl rfl rfl rfl (op_load_c1 rfl ta_2 rfl rfl ?_)
                    refine AOps.gt 195 rfl rfl rfl rfl rfl (op_gtr rfl rfl rfl ?_); intro c195 h195
                    refine AOps.gt 196 rfl rfl rfl rfl rfl (op_pick rfl rfl rfl ?_)
                    refine AOps.gt 197 rfl rfl rfl rfl rfl (op_pick rfl rfl rfl ?_)
                    refine AOps.st 198 rfl rfl rfl (op_pick rfl rfl rfl ?_)
                    refine AOps.nil ?_
                    refine BoolQ.mk rfl ?_ (by repeat' (first | exact SLe.wo _ _ | exact SLe.refl _ | refine SLe.fresh rfl ?_)) (by first | exact MLe.none _ | exact MLe.refl _ | (repeat' (first | exact MLe.nil | exact MLe.refl _ | refine MLe.cons _ ?_ | refine MLe.drop _ ?_)))
                    simp_all; done
                  · skip
                    refine AOps.gf 193 rfl rfl rfl rfl rfl ?_
                    refine AOps.gf 194 rfl rfl rfl rfl rfl ?_
                    refine AOps.gf 195 rfl rfl rfl rfl rfl ?_
                    refine AOps.gt 196 rfl rfl rfl rfl rfl (op_pick rfl rfl rfl ?_)
                    refine AOps.gt 197 rfl rfl rfl rfl rfl (op_pick rfl rfl rfl ?_)
                    refine AOps.st 198 rfl rfl rfl (op_pick rfl rfl rfl ?_)
                    refine AOps.nil ?_
                    refine BoolQ.mk rfl ?_ (by repeat' (first | exact SLe.wo _ _ | exact SLe.refl _ | refine SLe.fresh rfl ?_)) (by first | exact MLe.none _ | exact MLe.refl _ | (repeat' (first | exact MLe.nil | exact MLe.refl _ | refine MLe.cons _ ?_ | refine MLe.drop _ ?_)))
                    first | (simp_all; done) | (simp_all; omega)
              · skip
                refine AOps.gf 184 rfl rfl rfl rfl rfl ?_
                refine AOps.gf 185 rfl rfl rfl rfl rfl ?_
                refine AOps.gf 186 rfl rfl rfl rfl rfl ?_
                refine AOps.gt 187 rfl rfl rfl rfl rfl (op_pick rfl rfl rfl ?_)
                refine AOps.gt 188 rfl rfl rfl rfl rfl (op_move rfl rfl ?_)
                refine AOps.gt 189 rfl rfl rfl rfl rfl (op_fieldAddr_c rfl tf_46_3 rfl rfl ?_)
                refine AOps.gt 190 rfl rfl rfl rfl rfl (op_load_c1 rfl ta_2 rfl rfl ?_)
                refine AOps.gt 191 rfl rfl rfl rfl rfl (op_lss rfl rfl rfl ?_); intro c191 h191
                refine AOps.gt 192 rfl rfl rfl rfl rfl (op_move rfl rfl ?_)
                rcases bool_split h191 with ⟨rfl, g191⟩ | ⟨rfl, g191⟩
                · skip
                  refine AOps.gt 193 rfl rfl rfl rfl rfl (op_fieldAddr_c rfl tf_46_3 rfl rfl ?_)
                  refine AOps.gt 194 rfl rfl rfl rfl rfl (op_load_c1 rfl ta_2 rfl rfl ?_)
                  refine AOps.gt 195 rfl rfl rfl rfl rfl (op_gtr rfl rfl rfl ?_); intro c195 h195
                  refine AOps.gt 196 rfl rfl rfl rfl rfl (op_pick rfl rfl rfl ?_)
                  refine AOps.gt 197 rfl rfl rfl rfl rfl (op_pick rfl rfl rfl ?_)
                  refine AOps.st 198 rfl rfl rfl (op_pick rfl rfl rfl ?_)
                  refine AOps.nil ?_
                  refine BoolQ.mk rfl ?_ (by repeat' (first | exact SLe.wo _ _ | exact SLe.refl _ | refine SLe.fresh rfl ?_)) (by first | exact MLe.none _ | exact MLe.refl _ | (repeat' (first | exact MLe.nil | exact MLe.refl _ | refine MLe.cons _ ?_ | refine MLe.drop _ ?_)))
                  simp_all; done
                · skip
                  refine AOps.gf 193 rfl rfl rfl rfl rfl ?_
                  refine AOps.gf 194 rfl rfl rfl rfl rfl ?_
                  refine AOps.gf 195 rfl rfl rfl rfl rfl ?_
                  refine AOps.gt 196 rfl rfl rfl rfl rfl (op_pick rfl rfl rfl ?_)
                  refine AOps.gt 197 rfl rfl rfl rfl rfl (op_pick rfl rfl rfl ?_)
                  refine AOps.st 198 rfl rfl rfl (op_pick rfl rfl rfl ?_)
                  refine AOps.nil ?_
                  refine BoolQ.mk rfl ?_ (by repeat' (first | exact SLe.wo _ _ | exact SLe.refl _ | refine SLe.fresh rfl ?_)) (by first | exact MLe.none _ | exact MLe.refl _ | (repeat' (first | exact MLe.nil | exact MLe.refl _ | refine MLe.cons _ ?_ | refine MLe.drop _ ?_)))
                  first | (simp_all; done) | (simp_all; omega)
            · skip
              refine AOps.gt 164 rfl rfl rfl rfl rfl (op_fieldAddr_c rfl tf_46_4 rfl rfl ?_)
              refine AOps.gt 165 rfl rfl rfl rfl rfl (op_load_c1 rfl ta_42 rfl rfl ?_)
              refine AOps.gt 166 rfl rfl rfl rfl rfl (op_len rfl tu_42 rfl (.seq _ _) (fun n166 => ?_))
              refine AOps.gt 167 rfl rfl rfl rfl rfl (op_eql rfl rfl rfl ?_); intro c167 h167
              refine AOps.gt 168 rfl rfl rfl rfl rfl (op_move rfl rfl ?_)
              rcases bool_split h167 with ⟨rfl, g167⟩ | ⟨rfl, g167⟩
              · skip
                refine AOps.gt 169 rfl rfl rfl rfl rfl (op_fieldAddr_c rfl tf_46_3 rfl rfl ?_)
                refine AOps.gt 170 rfl rfl rfl rfl rfl (op_load_c1 rfl ta_2 rfl rfl ?_)
                refine AOps.gt 171 rfl rfl rfl rfl rfl (op_lss rfl rfl rfl ?_); intro c171 h171
                refine AOps.gt 172 rfl rfl rfl rfl rfl (op_pick rfl rfl rfl ?_)
                refine AOps.gt 173 rfl rfl rfl rfl rfl (op_move rfl rfl ?_)
                rcases bool_split h171 with ⟨rfl, g171⟩ | ⟨rfl, g171⟩
                · skip
                  refine AOps.gt 174 rfl rfl rfl rfl rfl (op_fieldAddr_c rfl tf_46_3 rfl rfl ?_)
                  refine AOps.gt 175 rfl rfl rfl rfl rfl (op_load_c1 rfl ta_2 rfl rfl ?_)
                  refine AOps.gt 176 rfl rfl rfl rfl rfl (op_gtr rfl rfl rfl ?_); intro c176 h176
                  refine AOps.gt 177 rfl rfl rfl rfl rfl (op_pick rfl rfl rfl ?_)
                  refine AOps.st 178 rfl rfl rfl (op_pick rfl rfl rfl ?_)
                  refine AOps.st 179 rfl rfl rfl (op_move rfl rfl ?_)
                  rcases bool_split h176 with ⟨rfl, g176⟩ | ⟨rfl, g176⟩
                  · skip
                    refine AOps.gt 180 rfl rfl rfl rfl rfl (op_fieldAddr_c rfl tf_46_0 rfl rfl ?_)
                    refine AOps.gt 181 rfl rfl rfl rfl rfl (op_load_c1 rfl ta_3 rfl rfl ?_)
                    refine AOps.gt 182 rfl rfl rfl rfl rfl (op_eql rfl rfl rfl ?_); intro c182 h182
                    refine AOps.gt 183 rfl rfl rfl rfl rfl (op_move rfl rfl ?_)
                    rcases bool_split h182 with ⟨rfl, g182⟩ | ⟨rfl, g182⟩
                    · skip
                      refine AOps.gt 184 rfl rfl rfl rfl rfl (op_fieldAddr_c rfl tf_46_0 rfl rfl ?_)
                      refine AOps.gt 185 rfl rfl rfl rfl rfl (op_load_c1 rfl ta_3 rfl rfl ?_)
                      refine AOps.gt 186 rfl rfl rfl rfl rfl (op_eql rfl rfl rfl ?_); intro c186 h186
                      refine AOps.gt 187 rfl rfl rfl rfl rfl (op_pick rfl rfl rfl ?_)
                      refine AOps.gt 188 rfl rfl rfl rfl rfl (op_move rfl rfl ?_)
                      rcases bool_split h186 with ⟨rfl, g186⟩ | ⟨rfl, g186⟩
                      · skip
                        refine AOps.gf 189 rfl rfl rfl rfl rfl ?_
                        refine AOps.gf 190 rfl rfl rfl rfl rfl ?_
                        refine AOps.gf 191 rfl rfl rfl rfl rfl ?_
                        refine AOps.gf 192 rfl rfl rfl rfl rfl ?_
                        refine AOps.gu 193 rfl rfl rfl rfl rfl ?_
                        refine AOps.gu 194 rfl rfl rfl rfl rfl ?_
                        refine AOps.gu 195 rfl rfl rfl rfl rfl ?_
                        refine AOps.gf 196 rfl rfl rfl rfl rfl ?_
                        refine AOps.gt 197 rfl rfl rfl rfl rfl (op_pick rfl rfl rfl ?_)
                        refine AOps.st 198 rfl rfl rfl (op_pick rfl rfl rfl ?_)
                        refine AOps.nil ?_
                        refine BoolQ.mk rfl ?_ (by repeat' (first | exact SLe.wo _ _ | exact SLe.refl _ | refine SLe.fresh rfl ?_)) (by first | exact MLe.none _ | exact MLe.refl _ | (repeat' (first | exact MLe.nil | exact MLe.refl _ | refine MLe.cons _ ?_ | refine MLe.drop _ ?_)))
                        simp_all; done
                      · skip
                        refine AOps.gt 189 rfl rfl rfl rfl rfl (op_fieldAddr_c rfl tf_46_3 rfl rfl ?_)
                        refine AOps.gt 190 rfl rfl rfl rfl rfl (op_load_c1 rfl ta_2 rfl rfl ?_)
                        refine AOps.gt 191 rfl rfl rfl rfl rfl (op_lss rfl rfl rfl ?_); intro c191 h191
                        refine AOps.gt 192 rfl rfl rfl rfl rfl (op_move rfl rfl ?_)
                        rcases bool_split h191 with ⟨rfl, g191⟩ | ⟨rfl, g191⟩
                        · skip
                          refine AOps.gt 193 rfl rfl rfl rfl rfl (op_fieldAddr_c rfl tf_46_3 rfl rfl ?_)
                          refine AOps.gt 194 rfl rfl rfl rfl rfl (op_load_c1 rfl ta_2 rfl rfl ?_)
                          refine AOps.gt 195 rfl rfl rfl rfl rfl (op_gtr rfl rfl rfl ?_); intro c195 h195
                          refine AOps.gt 196 rfl rfl rfl rfl rfl (op_pick rfl rfl rfl ?_)
                          refine AOps.gt 197 rfl rfl rfl rfl rfl (op_pick rfl rfl rfl ?_)
                          refine AOps.st 198 rfl rfl rfl (op_pick rfl rfl rfl ?_)
                          refine AOps.nil ?_
                          refine BoolQ.mk rfl ?_ (by repeat' (first | exact SLe.wo _ _ | exact SLe.refl _ | refine SLe.fresh rfl ?_)) (by first | exact MLe.none _ | exact MLe.refl _ | (repeat' (first | exact MLe.nil | exact MLe.refl _ | refine MLe.cons _ ?_ | refine MLe.drop _ ?_)))
                          simp_all; done
                        · skip
                          refine AOps.gf 193 rfl rfl rfl rfl rfl ?_
                          refine AOps.gf 194 rfl rfl rfl rfl rfl ?_
                          refine AOps.gf 195 rfl rfl rfl rfl rfl ?_
                          refine AOps.gt 196 rfl rfl rfl rfl rfl (op_pick rfl rfl rfl ?_)
                          refine AOps.gt 197 rfl rfl rfl rfl rfl (op_pick rfl rfl rfl ?_)
                          refine AOps.st 198 rfl rfl rfl (op_pick rfl rfl rfl ?_)
                          refine AOps.nil ?_
                          refine BoolQ.mk rfl ?_ (by repeat' (first | exact SLe.wo _ _ | exact SLe.refl _ | refine SLe.fresh rfl ?_)) (by first | exact MLe.none _ | exact MLe.refl _ | (repeat' (first | exact MLe.nil | exact MLe.refl _ | refine MLe.cons _ ?_ | refine MLe.drop _ ?_)))
                          simp_all; done
                    · skip
                      refine AOps.gf 184 rfl rfl rfl rfl rfl ?_
                      refine AOps.gf 185 rfl rfl rfl rfl rfl ?_
                      refine AOps.gf 186 rfl rfl rfl rfl rfl ?_
                      refine AOps.gt 187 rfl rfl rfl rfl rfl (op_pick rfl rfl rfl ?_)
                      refine AOps.gt 188 rfl rfl rfl rfl rfl (op_move rfl rfl ?_)
                      refine AOps.gt 189 rfl rfl rfl rfl rfl (op_fieldAddr_c rfl tf_46_3 rfl rfl ?_)
                      refine AOps.gt 190 rfl rfl rfl rfl rfl (op_load_c1 rfl ta_2 rfl rfl ?_)
                      refine AOps.gt 191 rfl rfl rfl rfl rfl (op_lss rfl rfl rfl ?_); intro c191 h191
                      refine AOps.gt 192 rfl rfl rfl rfl rfl (op_move rfl rfl ?_)
                      rcases bool_split h191 with ⟨rfl, g191⟩ | ⟨rfl, g191⟩
                      · skip
                        refine AOps.gt 193 rfl rfl rfl rfl rfl (op_fieldAddr_c rfl tf_46_3 rfl rfl ?_)
                        refine AOps.gt 194 rfl rfl rfl rfl rfl (op_load_c1 rfl ta_2 rfl rfl ?_)
                        refine AOps.gt 195 rfl rfl rfl rfl rfl (op_gtr rfl rfl rfl ?_); intro c195 h195
                        refine AOps.gt 196 rfl rfl rfl rfl rfl (op_pick rfl rfl rfl ?_)
                        refine AOps.gt 197 rfl rfl rfl rfl rfl (op_pick rfl rfl rfl ?_)
                        refine AOps.st 198 rfl rfl rfl (op_pick rfl rfl rfl ?_)
                        refine AOps.nil ?_
                        refine BoolQ.mk rfl ?_ (by repeat' (first | exact SLe.wo _ _ | exact SLe.refl _ | refine SLe.fresh rfl ?_)) (by first | exact MLe.none _ | exact MLe.refl _ | (repeat' (first | exact MLe.nil | exact MLe.refl _ | refine MLe.cons _ ?_ | refine MLe.drop _ ?_)))
                        simp_all; done
                      · skip
                        refine AOps.gf 193 rfl rfl rfl rfl rfl ?_
                        refine AOps.gf 194 rfl rfl rfl rfl rfl ?_
                        refine AOps.gf 195 rfl rfl rfl rfl rfl ?_
                        refine AOps.gt 196 rfl rfl rfl rfl rfl (op_pick rfl rfl rfl ?_)
                        refine AOps.gt 197 rfl rfl rfl rfl rfl (op_pick rfl rfl rfl ?_)
                        refine AOps.st 198 rfl rfl rfl (op_pick rfl rfl rfl ?_)
                        refine AOps.nil ?_
                        refine BoolQ.mk rfl ?_ (by repeat' (first | exact SLe.wo _ _ | exact SLe.refl _ | refine SLe.fresh rfl ?_)) (by first | exact MLe.none _ | exact MLe.refl _ | (repeat' (first | exact MLe.nil | exact MLe.refl _ | refine MLe.cons _ ?_ | refine MLe.drop _ ?_)))
                        simp_all; done
                  · skip
                    refine AOps.gf 180 rfl rfl rfl rfl rfl ?_
                    refine AOps.gf 181 rfl rfl rfl rfl rfl ?_
                    refine AOps.gf 182 rfl rfl rfl rfl rfl ?_
                    refine AOps.gf 183 rfl rfl rfl rfl rfl ?_
                    refine AOps.gu 184 rfl rfl rfl rfl rfl ?_
                    refine AOps.gu 185 rfl rfl rfl rfl rfl ?_
                    refine AOps.gu 186 rfl rfl rfl rfl rfl ?_
                    refine AOps.gf 187 rfl rfl rfl rfl rfl ?_
                    refine AOps.gf 188 rfl rfl rfl rfl rfl ?_
                    refine AOps.gu 189 rfl rfl rfl rfl rfl ?_
                    refine AOps.gu 190 rfl rfl rfl rfl rfl ?_
                    refine AOps.gu 191 rfl rfl rfl rfl rfl ?_
                    refine AOps.gu 192 rfl rfl rfl rfl rfl ?_
                    refine AOps.gu 193 rfl rfl rfl rfl rfl ?_
                    refine AOps.gu 194 rfl rfl rfl rfl rfl ?_
                    refine AOps.gu 195 rfl rfl rfl rfl rfl ?_
                    refine AOps.gu 196 rfl rfl rfl rfl rfl ?_
                    refine AOps.gf 197 rfl rfl rfl rfl rfl ?_
                    refine AOps.st 198 rfl rfl rfl (op_pick rfl rfl rfl ?_)
                    refine AOps.nil ?_
                    refine BoolQ.mk rfl ?_ (by repeat' (first | exact SLe.wo _ _ | exact SLe.refl _ | refine SLe.fresh rfl ?_)) (by first | exact MLe.none _ | exact MLe.refl _ | (repeat' (first | exact MLe.nil | exact MLe.refl _ | refine MLe.cons _ ?_ | refine MLe.drop _ ?_)))
                    simp_all; done
                · skip
                  refine AOps.gf 174 rfl rfl rfl rfl rfl ?_
                  refine AOps.gf 175 rfl rfl rfl rfl rfl ?_
                  refine AOps.gf 176 rfl rfl rfl rfl rfl ?_
                  refine AOps.gt 177 rfl rfl rfl rfl rfl (op_pick rfl rfl rfl ?_)
                  refine AOps.st 178 rfl rfl rfl (op_pick rfl rfl rfl ?_)
                  refine AOps.st 179 rfl rfl rfl (op_move rfl rfl ?_)
                  refine AOps.gf 180 rfl rfl rfl rfl rfl ?_
                  refine AOps.gf 181 rfl rfl rfl rfl rfl ?_
                  refine AOps.gf 182 rfl rfl rfl rfl rfl ?_
                  refine AOps.gf 183 rfl rfl rfl rfl rfl ?_
                  refine AOps.gu 184 rfl rfl rfl rfl rfl ?_
                  refine AOps.gu 185 rfl rfl rfl rfl rfl ?_
                  refine AOps.gu 186 rfl rfl rfl rfl rfl ?_
                  refine AOps.gf 187 rfl rfl rfl rfl rfl ?_
                  refine AOps.gf 188 rfl rfl rfl rfl rfl ?_
                  refine AOps.gu 189 rfl rfl rfl rfl rfl ?_
                  refine AOps.gu 190 rfl rfl rfl rfl rfl ?_
                  refine AOps.gu 191 rfl rfl rfl rfl rfl ?_
                  refine AOps.gu 192 rfl rfl rfl rfl rfl ?_
                  refine AOps.gu 193 rfl rfl rfl rfl rfl ?_
                  refine AOps.gu 194 rfl rfl rfl rfl rfl ?_
                  refine AOps.gu 195 rfl rfl rfl rfl rfl ?_
                  refine AOps.gu 196 rfl rfl rfl rfl rfl ?_
                  refine AOps.gf 197 rfl rfl rfl rfl rfl ?_
                  refine AOps.st 198 rfl rfl rfl (op_pick rfl rfl rfl ?_)
                  refine AOps.nil ?_
                  refine BoolQ.mk rfl ?_ (by repeat' (first | exact SLe.wo _ _ | exact SLe.refl _ | refine SLe.fresh rfl ?_)) (by first | exact MLe.none _ | exact MLe.refl _ | (repeat' (first | exact MLe.nil | exact MLe.refl _ | refine MLe.cons _ ?_ | refine MLe.drop _ ?_)))
                  first | (simp_all; done) | (simp_all; omega)
              · skip
                refine AOps.gf 169 rfl rfl rfl rfl rfl ?_
                refine AOps.gf 170 rfl rfl rfl rfl rfl ?_
                refine AOps.gf 171 rfl rfl rfl rfl rfl ?_
                refine AOps.gt 172 rfl rfl rfl rfl rfl (op_pick rfl rfl rfl ?_)
                refine AOps.gt 173 rfl rfl rfl rfl rfl (op_move rfl rfl ?_)
                refine AOps.gf 174 rfl rfl rfl rfl rfl ?_
                refine AOps.gf 175 rfl rfl rfl rfl rfl ?_
                refine AOps.gf 176 rfl rfl rfl rfl rfl ?_
                refine AOps.gt 177 rfl rfl rfl rfl rfl (op_pick rfl rfl rfl ?_)
                refine AOps.st 178 rfl rfl rfl (op_pick rfl rfl rfl ?_)
                refine AOps.st 179 rfl rfl rfl (op_move rfl rfl ?_)
                refine AOps.gf 180 rfl rfl rfl rfl rfl ?_
                refine AOps.gf 181 rfl rfl rfl rfl rfl ?_
                refine AOps.gf 182 rfl rfl rfl rfl rfl ?_
                refine AOps.gf 183 rfl rfl rfl rfl rfl ?_
                refine AOps.gu 184 rfl rfl rfl rfl rfl ?_
                refine AOps.gu 185 rfl rfl rfl rfl rfl ?_
                refine AOps.gu 186 rfl rfl rfl rfl rfl ?_
                refine AOps.gf 187 rfl rfl rfl rfl rfl ?_
                refine AOps.gf 188 rfl rfl rfl rfl rfl ?_
                refine AOps.gu 189 rfl rfl rfl rfl rfl ?_
                refine AOps.gu 190 rfl rfl rfl rfl rfl ?_
                refine AOps.gu 191 rfl rfl rfl rfl rfl ?_
                refine AOps.gu 192 rfl rfl rfl rfl rfl ?_
                refine AOps.gu 193 rfl rfl rfl rfl rfl ?_
                refine AOps.gu 194 rfl rfl rfl rfl rfl ?_
                refine AOps.gu 195 rfl rfl rfl rfl rfl ?_
                refine AOps.gu 196 rfl rfl rfl rfl rfl ?_
                refine AOps.gf 197 rfl rfl rfl rfl rfl ?_
                refine AOps.st 198 rfl rfl rfl (op_pick rfl rfl rfl ?_)
                refine AOps.nil ?_
                refine BoolQ.mk rfl ?_ (by repeat' (first | exact SLe.wo _ _ | exact SLe.refl _ | refine SLe.fresh rfl ?_)) (by first | exact MLe.none _ | exact MLe.refl _ | (repeat' (first | exact MLe.nil | exact MLe.refl _ | refine MLe.cons _ ?_ | refine MLe.drop _ ?_)))
                simp_all; done
          intro c198 h198
          refine go_code ?_
          rcases bool_split h198 with ⟨rfl, g198⟩ | ⟨rfl, g198⟩
          · refine c_cond_f rfl ?_
            refine c_skip ?_
            refine go_code ?_
            refine c_seq ?_
            refine c_seq ?_
            have e6 := Classical.not_not.1 g198
            refine c_boold 210 (¬ (op = 8 → (ar.length : Int) = tk)) tmix rfl ?_ _ _ rfl ?_
            · skip
              refine DOps.st 199 rfl rfl (op_fieldAddr_c rfl tf_46_0 rfl rfl ⟨rfl, rfl⟩) ?_
              refine DOps.st 200 rfl rfl (op_load_c1 rfl ta_3 rfl rfl ⟨rfl, rfl⟩) ?_
              refine DOps.cm 201 rfl rfl (fun _ q => op_eql rfl rfl rfl q) ?_; intro c201 h201
              refine DOps.st 202 rfl rfl (op_move rfl rfl ⟨rfl, rfl⟩) ?_
              rcases bool_split h201 with ⟨rfl, g201⟩ | ⟨rfl, g201⟩
              · skip
                refine DOps.gf 203 rfl rfl rfl rfl ?_
                refine DOps.gf 204 rfl rfl rfl rfl ?_
                refine DOps.gf 205 rfl rfl rfl rfl ?_
                refine DOps.gf 206 rfl rfl rfl rfl ?_
                refine DOps.gf 207 rfl rfl rfl rfl ?_
                refine DOps.gf 208 rfl rfl rfl rfl ?_
                refine DOps.gf 209 rfl rfl rfl rfl ?_
                refine DOps.st 210 rfl rfl (op_pick rfl rfl rfl ⟨rfl, rfl⟩) ?_
                show BoolQ _ _ _ _ _ _
                refine BoolQ.mk rfl ?_ (by repeat' (first | exact SLe.wo _ _ | exact SLe.refl _ | refine SLe.fresh rfl ?_)) (by first | exact MLe.none _ | exact MLe.refl _ | (repeat' (first | exact MLe.nil | exact MLe.refl _ | refine MLe.cons _ ?_ | refine MLe.drop _ ?_)))
                simp_all; done
              · skip
                refine DOps.gt 203 rfl rfl rfl rfl (op_fieldAddr_c rfl tf_46_4 rfl rfl ⟨rfl, rfl⟩) ?_
                refine DOps.gt 204 rfl rfl rfl rfl (op_load_c1 rfl ta_42 rfl rfl ⟨rfl, rfl⟩) ?_
                refine DOps.gt 205 rfl rfl rfl rfl (op_len rfl tu_42 rfl (.seq _ _) (fun _ => ⟨rfl, rfl⟩)) ?_
                refine DOps.gt 206 rfl rfl rfl rfl (op_fieldAddr_c rfl tf_46_3 rfl rfl ⟨rfl, rfl⟩) ?_
                refine DOps.gt 207 rfl rfl rfl rfl (op_load_c1 rfl ta_2 rfl rfl ⟨rfl, rfl⟩) ?_
                refine DOps.gt 208 rfl rfl rfl rfl (op_callp (xs := [.tmp 207]) rfl rfl (HT) (by first | exact Les.refl _ | (repeat' (first | exact Les.refl _ | refine Les.cons ?_ ?_ | exact Le.refl _ | exact Le.own _ _ _ | exact Le.nil _ | refine Le.agg ?_))) ⟨rfl, rfl⟩) ?_
                refine DOps.gtc 209 rfl rfl rfl rfl (fun _ q => op_neq rfl rfl rfl q) ?_; intro c209 h209
                refine DOps.st 210 rfl rfl (op_pick rfl rfl rfl ⟨rfl, rfl⟩) ?_
                show BoolQ _ _ _ _ _ _
                refine BoolQ.mk rfl ?_ (by repeat' (first | exact SLe.wo _ _ | exact SLe.refl _ | refine SLe.fresh rfl ?_)) (by first | exact MLe.none _ | exact MLe.refl _ | (repeat' (first | exact MLe.nil | exact MLe.refl _ | refine MLe.cons _ ?_ | refine MLe.drop _ ?_)))
                simp_all; done
            intro c210 h210
            refine go_code ?_
            rcases bool_split h210 with ⟨rfl, g210⟩ | ⟨rfl, g210⟩
            · refine c_cond_f rfl ?_
              refine c_skip ?_
              refine go_code ?_
              refine c_seq ?_
              refine c_seq ?_
              have e7 := Classical.not_not.1 g210
              refine c_region ?_
              refine AOps.st 211 rfl rfl rfl (op_fieldAddr_c rfl tf_46_0 rfl rfl ?_)
              refine AOps.st 212 rfl rfl rfl (op_load_c1 rfl ta_3 rfl rfl ?_)
              refine AOps.st 213 rfl rfl rfl (op_neq rfl rfl rfl ?_); intro c213 h213
              refine AOps.nil ?_
              refine go_code ?_
              rcases bool_split h213 with ⟨rfl, g213⟩ | ⟨rfl, g213⟩
              · refine c_cond_f rfl ?_
                refine c_skip ?_
                refine go_code ?_
                refine c_seq ?_
                refine c_seq ?_
                have hab : a ≤ 1048576 ∧ -1048576 ≤ a := by
                  by_cases q : oA
                  · have := e3.1 q; omega
                  · have := e3.2.1 q; omega
                refine c_bool 247 (¬ (fs ≠ [] ∧ ca.length = fs.length ∧ a ≤ sl - fs.length)) ?_ _ _ rfl ?_
                · skip
                  refine AOps.st 224 rfl rfl rfl (op_fieldAddr_c rfl tf_46_5 rfl rfl ?_)
                  refine AOps.st 225 rfl rfl rfl (op_load_c1 rfl ta_43 rfl rfl ?_)
                  refine AOps.st 226 rfl rfl rfl (op_len rfl tu_43 rfl (.seq _ _) (fun n226 => ?_))
                  refine AOps.st 227 rfl rfl rfl (op_eql rfl rfl rfl ?_); intro c227 h227
                  refine AOps.st 228 rfl rfl rfl (op_move rfl rfl ?_)
                  rcases bool_split h227 with ⟨rfl, g227⟩ | ⟨rfl, g227⟩
                  · skip
                    refine AOps.gt 229 rfl rfl rfl rfl rfl (op_fieldAddr_c rfl tf_46_5 rfl rfl ?_)
                    refine AOps.gt 230 rfl rfl rfl rfl rfl (op_load_c1 rfl ta_43 rfl rfl ?_)
                    refine AOps.gt 231 rfl rfl rfl rfl rfl (op_len rfl tu_43 rfl (.seq _ _) (fun n231 => ?_))
                    refine AOps.gt 232 rfl rfl rfl rfl rfl (op_fieldAddr_c rfl tf_46_6 rfl rfl ?_)
                    refine AOps.gt 233 rfl rfl rfl rfl rfl (op_load_c1 rfl ta_44 rfl rfl ?_)
                    refine AOps.gt 234 rfl rfl rfl rfl rfl (op_len rfl tu_44 rfl (.seq _ _) (fun n234 => ?_))
                    refine AOps.gt 235 rfl rfl rfl rfl rfl (op_neq rfl rfl rfl ?_); intro c235 h235
                    refine AOps.st 236 rfl rfl rfl (op_pick rfl rfl rfl ?_)
                    refine AOps.st 237 rfl rfl rfl (op_move rfl rfl ?_)
                    rcases bool_split h235 with ⟨rfl, g235⟩ | ⟨rfl, g235⟩
                    · skip
                      refine AOps.gt 238 rfl rfl rfl rfl rfl (op_fieldAddr_c rfl tf_46_1 rfl rfl ?_)
                      refine AOps.gt 239 rfl rfl rfl rfl rfl (op_load_c1 rfl ta_3 rfl rfl ?_)
                      refine AOps.gt 240 rfl rfl rfl rfl rfl (op_fieldAddr_c rfl tf_46_5 rfl rfl ?_)
                      refine AOps.gt 241 rfl rfl rfl rfl rfl (op_load_c1 rfl ta_43 rfl rfl ?_)
                      refine AOps.gt 242 rfl rfl rfl rfl rfl (op_len rfl tu_43 rfl (.seq _ _) (fun n242 => ?_))
                      refine AOps.gt 243 rfl rfl rfl rfl rfl (op_add rfl rfl rfl (IntWalk.i64_in _ (by omega)) ?_)
                      refine AOps.gt 244 rfl rfl rfl rfl rfl (op_fieldAddr_c rfl tf_39_1 rfl rfl ?_)
                      refine AOps.gt 245 rfl rfl rfl rfl rfl (op_load_c1 rfl ta_3 rfl rfl ?_)
                      refine AOps.gt 246 rfl rfl rfl rfl rfl (op_gtr rfl rfl rfl ?_); intro c246 h246
                      refine AOps.st 247 rfl rfl rfl (op_pick rfl rfl rfl ?_)
                      refine AOps.nil ?_
                      refine BoolQ.mk rfl ?_ (by repeat' (first | exact SLe.wo _ _ | exact SLe.refl _ | refine SLe.fresh rfl ?_)) (by first | exact MLe.none _ | exact MLe.refl _ | (repeat' (first | exact MLe.nil | exact MLe.refl _ | refine MLe.cons _ ?_ | refine MLe.drop _ ?_)))
                      rw [h246, ne_nil_iff]; omega
                    · skip
                      refine AOps.gf 238 rfl rfl rfl rfl rfl ?_
                      refine AOps.gf 239 rfl rfl rfl rfl rfl ?_
                      refine AOps.gf 240 rfl rfl rfl rfl rfl ?_
                      refine AOps.gf 241 rfl rfl rfl rfl rfl ?_
                      refine AOps.gf 242 rfl rfl rfl rfl rfl ?_
                      refine AOps.gf 243 rfl rfl rfl rfl rfl ?_
                      refine AOps.gf 244 rfl rfl rfl rfl rfl ?_
                      refine AOps.gf 245 rfl rfl rfl rfl rfl ?_
                      refine AOps.gf 246 rfl rfl rfl rfl rfl ?_
                      refine AOps.st 247 rfl rfl rfl (op_pick rfl rfl rfl ?_)
                      refine AOps.nil ?_
                      refine BoolQ.mk rfl ?_ (by repeat' (first | exact SLe.wo _ _ | exact SLe.refl _ | refine SLe.fresh rfl ?_)) (by first | exact MLe.none _ | exact MLe.refl _ | (repeat' (first | exact MLe.nil | exact MLe.refl _ | refine MLe.cons _ ?_ | refine MLe.drop _ ?_)))
                      first | (rw [h246, ne_nil_iff]; omega) | (rw [ne_nil_iff]; simp only [true_iff]; omega)
                  · skip
                    refine AOps.gf 229 rfl rfl rfl rfl rfl ?_
                    refine AOps.gf 230 rfl rfl rfl rfl rfl ?_
                    refine AOps.gf 231 rfl rfl rfl rfl rfl ?_
                    refine AOps.gf 232 rfl rfl rfl rfl rfl ?_
                    refine AOps.gf 233 rfl rfl rfl rfl rfl ?_
                    refine AOps.gf 234 rfl rfl rfl rfl rfl ?_
                    refine AOps.gf 235 rfl rfl rfl rfl rfl ?_
                    refine AOps.st 236 rfl rfl rfl (op_pick rfl rfl rfl ?_)
                    refine AOps.st 237 rfl rfl rfl (op_move rfl rfl ?_)
                    refine AOps.gf 238 rfl rfl rfl rfl rfl ?_
                    refine AOps.gf 239 rfl rfl rfl rfl rfl ?_
                    refine AOps.gf 240 rfl rfl rfl rfl rfl ?_
                    refine AOps.gf 241 rfl rfl rfl rfl rfl ?_
                    refine AOps.gf 242 rfl rfl rfl rfl rfl ?_
                    refine AOps.gf 243 rfl rfl rfl rfl rfl ?_
                    refine AOps.gf 244 rfl rfl rfl rfl rfl ?_
                    refine AOps.gf 245 rfl rfl rfl rfl rfl ?_
                    refine AOps.gf 246 rfl rfl rfl rfl rfl ?_
                    refine AOps.st 247 rfl rfl rfl (op_pick rfl rfl rfl ?_)
                    refine AOps.nil ?_
                    refine BoolQ.mk rfl ?_ (by repeat' (first | exact SLe.wo _ _ | exact SLe.refl _ | refine SLe.fresh rfl ?_)) (by first | exact MLe.none _ | exact MLe.refl _ | (repeat' (first | exact MLe.nil | exact MLe.refl _ | refine MLe.cons _ ?_ | refine MLe.drop _ ?_)))
                    first | (rw [h246, ne_nil_iff]; omega) | (rw [ne_nil_iff]; simp only [true_iff]; omega)
                intro c247 h247
                refine go_code ?_
                rcases bool_split h247 with ⟨rfl, g247⟩ | ⟨rfl, g247⟩
                · refine c_cond_f rfl ?_
                  refine c_skip ?_
                  refine go_code ?_
                  refine c_seq ?_
                  refine c_seq ?_
                  obtain ⟨e8, e9, e10⟩ := Classical.not_not.1 g247
                  refine c_region ?_
                  refine AOps.st 11 rfl rfl rfl (op_assign rfl rfl ?_)
                  refine AOps.nil ?_
                  refine go_code ?_
                  refine c_block ?_
                  apply c_loopkm [0, 1, 2, 3, 6, 8, 9, 10, 11, 12, 13, 14, 15, 16, 17, 18, 19, 20, 21, 22, 23, 24, 25, 26, 27, 28, 29, 30, 31, 32, 33, 34, 35, 36, 37, 38, 39, 40, 41, 42, 43, 44, 45, 46, 47, 48, 49, 50, 51, 52, 53, 54, 55, 56, 57, 58, 59, 60, 61, 62, 63, 64, 65, 66, 67, 68, 69, 70, 71, 72, 73, 74, 75, 76, 77, 78, 79, 80, 81, 82, 83, 84, 85, 86, 87, 88, 89, 90, 91, 92, 93, 94, 95, 96, 97, 98, 99, 100, 101, 102, 103, 104, 105, 106, 107, 108, 109, 110, 111, 112, 113, 114, 115, 116, 117, 118, 119, 120, 121, 122, 123, 124, 125, 126, 127, 128, 129, 130, 131, 132, 133, 134, 135, 136, 137, 138, 139, 140, 141, 142, 143, 144, 145, 146, 147, 148, 149, 150, 151, 152, 153, 154, 155, 156, 157, 158, 159, 160, 161, 162, 163, 164, 165, 166, 167, 168, 169, 170, 171, 172, 173, 174, 175, 176, 177, 178, 179, 180, 181, 182, 183, 184, 185, 186, 187, 188, 189, 190, 191, 192, 193, 194, 195, 196, 197, 198, 199, 200, 201, 202, 203, 204, 205, 206, 207, 208, 209, 210, 211, 212, 213, 214, 215, 216, 217, 218, 219, 220, 221, 222, 223, 224, 225, 226, 227, 228, 229, 230, 231, 232, 233, 234, 235, 236, 237, 238, 239, 240, 241, 242, 243, 244, 245, 246, 247, 248, 249, 250, 251, 252, 253, 254, 255, 256, 257, 258, 259, 260, 261, 262, 263, 264, 265, 266, 267, 268, 269, 270, 271, 272, 273, 274, 275, 276, 277, 278, 279, 280, 281, 282, 283, 284, 285, 286, 287, 288, 289, 290, 291, 292, 293, 294] (σ := Nat) (fun zz => match zz with | k => [(11, .val (.int .i64 k))]) (fun zz => match zz with | k => k ≤ fs.length ∧ ∀ j n l, j < k → fs[j]? = some n → ca[j]? = some l → 1 ≤ n ∧ n < fu.length ∧ (∀ g, fu[n.toNat]? = some g → (l.length : Int) = g.cp) ∧ ∀ a ∈ l, AP a) (fun zz => match zz with | k => fs.length - k) (0)
                  · repeat' (first | exact Drops.nil | apply Drops.keep rfl | apply Drops.skip rfl)
                  · exact ⟨by omega, by omega⟩
                  · exact (by repeat' (first | exact SLe.nil _ | refine SLe.cons rfl ?_ ?_ | exact Le.refl _ | exact Le.own _ _ _ | exact Le.nil _))
                  rintro k hI
                  try dsimp only [List.cons_append, List.nil_append] at hI ⊢
                  obtain ⟨hk, hu⟩ := hI
                  refine c_seq ?_
                  refine c_seq ?_
                  refine c_region ?_
                  refine AOps.st 248 rfl rfl rfl (op_move rfl rfl ?_)
                  refine AOps.st 249 rfl rfl rfl (op_fieldAddr_c rfl tf_46_5 rfl rfl ?_)
                  refine AOps.st 250 rfl rfl rfl (op_load_c1 rfl ta_43 rfl rfl ?_)
                  refine AOps.st 251 rfl rfl rfl (op_len rfl tu_43 rfl (.seq _ _) (fun n251 => ?_))
                  refine AOps.st 252 rfl rfl rfl (op_lss rfl rfl rfl ?_); intro c252 h252
                  refine AOps.nil ?_
                  refine go_code ?_
                  rcases bool_split h252 with ⟨rfl, g252⟩ | ⟨rfl, g252⟩
                  · refine c_cond_f rfl ?_
                    refine c_exit ?_
                    refine x_code ?_
                    refine x_lp ?_
                    refine x_here ?_
                    refine go_code ?_
                    refine c_seq ?_
                    refine c_region ?_
                    refine AOps.st 8 rfl rfl rfl (op_assign rfl rfl ?_)
                    refine AOps.nil ?_
                    refine go_code ?_
                    refine c_ret ?_
                    exact out_tmp rfl rfl (Le.refl _) (by first | exact MLe.none _ | exact MLe.refl _ | (repeat' (first | exact MLe.nil | exact MLe.refl _ | refine MLe.cons _ ?_ | refine MLe.drop _ ?_))) ⟨⟨_, iff_t ⟨e1, e2, e3, e4, e5, e6, e7, by omega, fun _ => ⟨e8, e9, e10, fun k' n' l' hn hl => hu k' n' l' (by have := (List.getElem?_eq_some_iff.1 hn).1; omega) hn hl⟩⟩, rfl⟩, rfl⟩
                  · refine c_cond_t rfl ?_
                    refine c_skip ?_
                    refine go_code ?_
                    refine c_seq ?_
                    refine c_block ?_
                    refine c_seq ?_
                    obtain ⟨m, hxm⟩ := get_some (l := fs) (i := k) (by first | omega | (simp at *; omega))
                    have hcm := nums_get hxm
                    have hmm := List.mem_of_getElem? hxm
                    refine c_region ?_
                    refine AOps.st 255 rfl rfl rfl (op_fieldAddr_c rfl tf_46_5 rfl rfl ?_)
                    refine AOps.st 256 rfl rfl rfl (op_load_c1 rfl ta_43 rfl rfl ?_)
                    refine AOps.st 257 rfl rfl rfl (op_move rfl rfl ?_)
                    refine AOps.st 258 rfl rfl rfl (op_index rfl te_43 rfl (.seq _ _) rfl rfl (by assumption) ?_)
                    first | (refine AOps.st 259 rfl rfl rfl (op_load_m1 (i := 0) rfl ta_3 rfl rfl rfl ?_)) | (refine AOps.st 259 rfl rfl rfl (op_load_m1 (i := 1) rfl ta_3 rfl rfl rfl ?_)) | (refine AOps.st 259 rfl rfl rfl (op_load_m1 (i := 2) rfl ta_3 rfl rfl rfl ?_)) | (refine AOps.st 259 rfl rfl rfl (op_load_m1 (i := 3) rfl ta_3 rfl rfl rfl ?_)) | (refine AOps.st 259 rfl rfl rfl (op_load_m1 (i := 4) rfl ta_3 rfl rfl rfl ?_)) | (refine AOps.st 259 rfl rfl rfl (op_load_m1 (i := 5) rfl ta_3 rfl rfl rfl ?_)) | (refine AOps.st 259 rfl rfl rfl (op_load_m1 (i := 6) rfl ta_3 rfl rfl rfl ?_)) | (refine AOps.st 259 rfl rfl rfl (op_load_m1 (i := 7) rfl ta_3 rfl rfl rfl ?_)) | (refine AOps.st 259 rfl rfl rfl (op_load_m1 (i := 8) rfl ta_3 rfl rfl rfl ?_)) | (refine AOps.st 259 rfl rfl rfl (op_load_m1 (i := 9) rfl ta_3 rfl rfl rfl ?_)) | (refine AOps.st 259 rfl rfl rfl (op_load_c1 rfl ta_3 rfl rfl ?_))
                    refine AOps.st 12 rfl rfl rfl (op_assign rfl rfl ?_)
                    refine AOps.nil ?_
                    refine go_code ?_
                    refine c_seq ?_
                    obtain ⟨l, hxl⟩ := get_some (l := ca) (i := k) (by omega)
                    have hcl := Ato.cellsss_get hxl
                    have hll := Ato.cellss_len l
                    obtain ⟨⟨wl, wsl, wcp⟩, hw⟩ : ∃ p : Cf, 1 ≤ m → m < fu.length → fu[m.toNat]? = some p := by
                      by_cases q : 1 ≤ m ∧ m < fu.length
                      · exact ⟨fu[m.toNat]'(by omega), fun _ _ => List.getElem?_eq_getElem (by omega)⟩
                      · exact ⟨⟨0, 0, 0⟩, fun h1 h2 => absurd ⟨h1, h2⟩ q⟩
                    refine c_boold 294 (¬ (1 ≤ m ∧ m < fu.length ∧ (l.length : Int) = wcp ∧ ∀ a ∈ l, AP a)) tmix rfl ?_ _ _ rfl ?_
                    · skip
                      refine DOps.st 260 rfl rfl (op_move rfl rfl ⟨rfl, rfl⟩) ?_
                      refine DOps.cm 261 rfl rfl (fun _ q => op_lss rfl rfl rfl q) ?_; intro c261 h261
                      refine DOps.st 262 rfl rfl (op_move rfl rfl ⟨rfl, rfl⟩) ?_
                      rcases bool_split h261 with ⟨rfl, g261⟩ | ⟨rfl, g261⟩
                      · skip
                        refine DOps.gt 263 rfl rfl rfl rfl (op_move rfl rfl ⟨rfl, rfl⟩) ?_
                        refine DOps.gt 264 rfl rfl rfl rfl (op_fieldAddr_c rfl tf_26_1 rfl rfl ⟨rfl, rfl⟩) ?_
                        refine DOps.gt 265 rfl rfl rfl rfl (op_load_c1 rfl ta_23 rfl rfl ⟨rfl, rfl⟩) ?_
                        refine DOps.gt 266 rfl rfl rfl rfl (op_len rfl tu_23 rfl (.seq _ _) (fun _ => ⟨rfl, rfl⟩)) ?_
                        refine DOps.gtc 267 rfl rfl rfl rfl (fun _ q => op_geq rfl rfl rfl q) ?_; intro c267 h267
                        refine DOps.st 268 rfl rfl (op_pick rfl rfl rfl ⟨rfl, rfl⟩) ?_
                        refine DOps.st 269 rfl rfl (op_move rfl rfl ⟨rfl, rfl⟩) ?_
                        rcases bool_split h267 with ⟨rfl, g267⟩ | ⟨rfl, g267⟩
                        · skip
                          refine DOps.gt 270 rfl rfl rfl rfl (op_fieldAddr_c rfl tf_46_6 rfl rfl ⟨rfl, rfl⟩) ?_
                          refine DOps.gt 271 rfl rfl rfl rfl (op_load_c1 rfl ta_44 rfl rfl ⟨rfl, rfl⟩) ?_
                          refine DOps.gt 272 rfl rfl rfl rfl (op_move rfl rfl ⟨rfl, rfl⟩) ?_
                          refine DOps.gt 273 rfl rfl rfl rfl (op_index rfl te_44 rfl (.seq _ _) rfl rfl ((by first | exact hcl | exact Cf.cellss_get (hw (by omega) (by omega)))) ⟨rfl, rfl⟩) ?_
                          first | (refine DOps.gt 274 rfl rfl rfl rfl (op_load_m1 (i := 0) rfl ta_42 rfl rfl rfl ⟨rfl, rfl⟩) ?_) | (refine DOps.gt 274 rfl rfl rfl rfl (op_load_m1 (i := 1) rfl ta_42 rfl rfl rfl ⟨rfl, rfl⟩) ?_) | (refine DOps.gt 274 rfl rfl rfl rfl (op_load_m1 (i := 2) rfl ta_42 rfl rfl rfl ⟨rfl, rfl⟩) ?_) | (refine DOps.gt 274 rfl rfl rfl rfl (op_load_m1 (i := 3) rfl ta_42 rfl rfl rfl ⟨rfl, rfl⟩) ?_) | (refine DOps.gt 274 rfl rfl rfl rfl (op_load_m1 (i := 4) rfl ta_42 rfl rfl rfl ⟨rfl, rfl⟩) ?_) | (refine DOps.gt 274 rfl rfl rfl rfl (op_load_m1 (i := 5) rfl ta_42 rfl rfl rfl ⟨rfl, rfl⟩) ?_) | (refine DOps.gt 274 rfl rfl rfl rfl (op_load_m1 (i := 6) rfl ta_42 rfl rfl rfl ⟨rfl, rfl⟩) ?_) | (refine DOps.gt 274 rfl rfl rfl rfl (op_load_m1 (i := 7) rfl ta_42 rfl rfl rfl ⟨rfl, rfl⟩) ?_) | (refine DOps.gt 274 rfl rfl rfl rfl (op_load_m1 (i := 8) rfl ta_42 rfl rfl rfl ⟨rfl, rfl⟩) ?_) | (refine DOps.gt 274 rfl rfl rfl rfl (op_load_m1 (i := 9) rfl ta_42 rfl rfl rfl ⟨rfl, rfl⟩) ?_) | (refine DOps.gt 274 rfl rfl rfl rfl (op_load_c1 rfl ta_42 rfl rfl ⟨rfl, rfl⟩) ?_)
                          refine DOps.gt 275 rfl rfl rfl rfl (op_len rfl tu_42 rfl (.seq _ _) (fun _ => ⟨rfl, rfl⟩)) ?_
                          refine DOps.gt 276 rfl rfl rfl rfl (op_fieldAddr_c rfl tf_26_1 rfl rfl ⟨rfl, rfl⟩) ?_
                          refine DOps.gt 277 rfl rfl rfl rfl (op_load_c1 rfl ta_23 rfl rfl ⟨rfl, rfl⟩) ?_
                          refine DOps.gt 278 rfl rfl rfl rfl (op_move rfl rfl ⟨rfl, rfl⟩) ?_
                          first | (refine DOps.gt 279 rfl rfl rfl rfl (op_index rfl te_23 rfl (.seq _ _) rfl rfl ((by first | exact hcl | exact Cf.cellss_get (hw (by omega) (by omega)))) ⟨rfl, rfl⟩) ?_) | (refine DOps.gt 279 rfl rfl rfl rfl (op_index (i := 0) rfl te_23 rfl (.seq _ _) rfl rfl (by first | rfl | assumption) ⟨rfl, rfl⟩) ?_) | (refine DOps.gt 279 rfl rfl rfl rfl (op_index (i := 1) rfl te_23 rfl (.seq _ _) rfl rfl (by first | rfl | assumption) ⟨rfl, rfl⟩) ?_) | (refine DOps.gt 279 rfl rfl rfl rfl (op_index rfl te_23 rfl (.own _ _ _) rfl rfl ((by first | exact hcl | exact Cf.cellss_get (hw (by omega) (by omega)))) ⟨rfl, rfl⟩) ?_) | (refine DOps.gt 279 rfl rfl rfl rfl (op_index (i := 0) rfl te_23 rfl (.own _ _ _) rfl rfl (by first | rfl | assumption) ⟨rfl, rfl⟩) ?_) | (refine DOps.gt 279 rfl rfl rfl rfl (op_index (i := 1) rfl te_23 rfl (.own _ _ _) rfl rfl (by first | rfl | assumption) ⟨rfl, rfl⟩) ?_) | (refine DOps.gt 279 rfl rfl rfl rfl (op_index (i := m.toNat) rfl te_23 rfl (.seq _ _) rfl (by first | rfl | omega) ((by first | exact hcl | exact Cf.cellss_get (hw (by omega) (by omega)))) ⟨rfl, rfl⟩) ?_)
                          first | (refine DOps.gt 280 rfl rfl rfl rfl (op_fieldAddr_m rfl tf_39_2 rfl ⟨rfl, rfl⟩) ?_) | (refine DOps.gt 280 rfl rfl rfl rfl (op_fieldAddr_c rfl tf_39_2 rfl rfl ⟨rfl, rfl⟩) ?_)
                          first | (refine DOps.gt 281 rfl rfl rfl rfl (op_load_m1 (i := 0) rfl ta_3 rfl rfl rfl ⟨rfl, rfl⟩) ?_) | (refine DOps.gt 281 rfl rfl rfl rfl (op_load_m1 (i := 1) rfl ta_3 rfl rfl rfl ⟨rfl, rfl⟩) ?_) | (refine DOps.gt 281 rfl rfl rfl rfl (op_load_m1 (i := 2) rfl ta_3 rfl rfl rfl ⟨rfl, rfl⟩) ?_) | (refine DOps.gt 281 rfl rfl rfl rfl (op_load_m1 (i := 3) rfl ta_3 rfl rfl rfl ⟨rfl, rfl⟩) ?_) | (refine DOps.gt 281 rfl rfl rfl rfl (op_load_m1 (i := 4) rfl ta_3 rfl rfl rfl ⟨rfl, rfl⟩) ?_) | (refine DOps.gt 281 rfl rfl rfl rfl (op_load_m1 (i := 5) rfl ta_3 rfl rfl rfl ⟨rfl, rfl⟩) ?_) | (refine DOps.gt 281 rfl rfl rfl rfl (op_load_m1 (i := 6) rfl ta_3 rfl rfl rfl ⟨rfl, rfl⟩) ?_) | (refine DOps.gt 281 rfl rfl rfl rfl (op_load_m1 (i := 7) rfl ta_3 rfl rfl rfl ⟨rfl, rfl⟩) ?_) | (refine DOps.gt 281 rfl rfl rfl rfl (op_load_m1 (i := 8) rfl ta_3 rfl rfl rfl ⟨rfl, rfl⟩) ?_) | (refine DOps.gt 281 rfl rfl rfl rfl (op_load_m1 (i := 9) rfl ta_3 rfl rfl rfl ⟨rfl, rfl⟩) ?_) | (refine DOps.gt 281 rfl rfl rfl rfl (op_load_c1 rfl ta_3 rfl rfl ⟨rfl, rfl⟩) ?_)
                          refine DOps.gtc 282 rfl rfl rfl rfl (fun _ q => op_neq rfl rfl rfl q) ?_; intro c282 h282
                          refine DOps.st 283 rfl rfl (op_pick rfl rfl rfl ⟨rfl, rfl⟩) ?_
                          refine DOps.st 284 rfl rfl (op_move rfl rfl ⟨rfl, rfl⟩) ?_
                          rcases bool_split h282 with ⟨rfl, g282⟩ | ⟨rfl, g282⟩
                          · skip
                            refine DOps.gt 285 rfl rfl rfl rfl (op_fieldAddr_c rfl tf_46_6 rfl rfl ⟨rfl, rfl⟩) ?_
                            refine DOps.gt 286 rfl rfl rfl rfl (op_load_c1 rfl ta_44 rfl rfl ⟨rfl, rfl⟩) ?_
                            refine DOps.gt 287 rfl rfl rfl rfl (op_move rfl rfl ⟨rfl, rfl⟩) ?_
                            refine DOps.gt 288 rfl rfl rfl rfl (op_index rfl te_44 rfl (.seq _ _) rfl rfl ((by first | exact hcl | exact Cf.cellss_get (hw (by omega) (by omega)))) ⟨rfl, rfl⟩) ?_
                            first | (refine DOps.gt 289 rfl rfl rfl rfl (op_load_m1 (i := 0) rfl ta_42 rfl rfl rfl ⟨rfl, rfl⟩) ?_) | (refine DOps.gt 289 rfl rfl rfl rfl (op_load_m1 (i := 1) rfl ta_42 rfl rfl rfl ⟨rfl, rfl⟩) ?_) | (refine DOps.gt 289 rfl rfl rfl rfl (op_load_m1 (i := 2) rfl ta_42 rfl rfl rfl ⟨rfl, rfl⟩) ?_) | (refine DOps.gt 289 rfl rfl rfl rfl (op_load_m1 (i := 3) rfl ta_42 rfl rfl rfl ⟨rfl, rfl⟩) ?_) | (refine DOps.gt 289 rfl rfl rfl rfl (op_load_m1 (i := 4) rfl ta_42 rfl rfl rfl ⟨rfl, rfl⟩) ?_) | (refine DOps.gt 289 rfl rfl rfl rfl (op_load_m1 (i := 5) rfl ta_42 rfl rfl rfl ⟨rfl, rfl⟩) ?_) | (refine DOps.gt 289 rfl rfl rfl rfl (op_load_m1 (i := 6) rfl ta_42 rfl rfl rfl ⟨rfl, rfl⟩) ?_) | (refine DOps.gt 289 rfl rfl rfl rfl (op_load_m1 (i := 7) rfl ta_42 rfl rfl rfl ⟨rfl, rfl⟩) ?_) | (refine DOps.gt 289 rfl rfl rfl rfl (op_load_m1 (i := 8) rfl ta_42 rfl rfl rfl ⟨rfl, rfl⟩) ?_) | (refine DOps.gt 289 rfl rfl rfl rfl (op_load_m1 (i := 9) rfl ta_42 rfl rfl rfl ⟨rfl, rfl⟩) ?_) | (refine DOps.gt 289 rfl rfl rfl rfl (op_load_c1 rfl ta_42 rfl rfl ⟨rfl, rfl⟩) ?_)
                            refine DOps.gt 290 rfl rfl rfl rfl (op_load_c (cs' := [_, _, _]) rfl ta_39 rfl rfl rfl ⟨rfl, rfl⟩) ?_
                            refine DOps.gt 291 rfl rfl rfl rfl (op_load_c (cs' := [_, _, _, _, _, _]) rfl ta_26 rfl rfl rfl ⟨rfl, rfl⟩) ?_
                            refine DOps.gtc 292 rfl rfl rfl rfl (fun _ q => op_callb (xs := [.tmp 289, .tmp 290, .tmp 291]) rfl rfl (HC l) (by first | exact Les.refl _ | (repeat' (first | exact Les.refl _ | refine Les.cons ?_ ?_ | exact Le.refl _ | exact Le.own _ _ _ | exact Le.nil _ | refine Le.agg ?_))) q) ?_; intro c292 h292
                            refine DOps.gtc 293 rfl rfl rfl rfl (fun _ q => op_notc rfl rfl q) ?_; intro c293 h293
                            try replace h293 := nott h293 h292
                            refine DOps.st 294 rfl rfl (op_pick rfl rfl rfl ⟨rfl, rfl⟩) ?_
                            show BoolQ _ _ _ _ _ _
                            refine BoolQ.mk rfl ?_ (by repeat' (first | exact SLe.wo _ _ | exact SLe.refl _ | refine SLe.fresh rfl ?_)) (by first | exact MLe.none _ | exact MLe.refl _ | (repeat' (first | exact MLe.nil | exact MLe.refl _ | refine MLe.cons _ ?_ | refine MLe.drop _ ?_)))
                            first | (simp only [true_iff]; omega) | (rw [h293]; simp only [not_and]; constructor <;> intro q; (intro _ _ _; exact q); exact q (by omega) (by omega) (by omega))
                          · skip
                            refine DOps.gf 285 rfl rfl rfl rfl ?_
                            refine DOps.gf 286 rfl rfl rfl rfl ?_
                            refine DOps.gf 287 rfl rfl rfl rfl ?_
                            refine DOps.gf 288 rfl rfl rfl rfl ?_
                            refine DOps.gf 289 rfl rfl rfl rfl ?_
                            refine DOps.gf 290 rfl rfl rfl rfl ?_
                            refine DOps.gf 291 rfl rfl rfl rfl ?_
                            refine DOps.gf 292 rfl rfl rfl rfl ?_
                            refine DOps.gf 293 rfl rfl rfl rfl ?_
                            refine DOps.st 294 rfl rfl (op_pick rfl rfl rfl ⟨rfl, rfl⟩) ?_
                            show BoolQ _ _ _ _ _ _
                            refine BoolQ.mk rfl ?_ (by repeat' (first | exact SLe.wo _ _ | exact SLe.refl _ | refine SLe.fresh rfl ?_)) (by first | exact MLe.none _ | exact MLe.refl _ | (repeat' (first | exact MLe.nil | exact MLe.refl _ | refine MLe.cons _ ?_ | refine MLe.drop _ ?_)))
                            simp only [true_iff]; omega
                        · skip
                          refine DOps.gf 270 rfl rfl rfl rfl ?_
                          refine DOps.gf 271 rfl rfl rfl rfl ?_
                          refine DOps.gf 272 rfl rfl rfl rfl ?_
                          refine DOps.gf 273 rfl rfl rfl rfl ?_
                          refine DOps.gf 274 rfl rfl rfl rfl ?_
                          refine DOps.gf 275 rfl rfl rfl rfl ?_
                          refine DOps.gf 276 rfl rfl rfl rfl ?_
                          refine DOps.gf 277 rfl rfl rfl rfl ?_
                          refine DOps.gf 278 rfl rfl rfl rfl ?_
                          refine DOps.gf 279 rfl rfl rfl rfl ?_
                          refine DOps.gf 280 rfl rfl rfl rfl ?_
                          refine DOps.gf 281 rfl rfl rfl rfl ?_
                          refine DOps.gf 282 rfl rfl rfl rfl ?_
                          refine DOps.st 283 rfl rfl (op_pick rfl rfl rfl ⟨rfl, rfl⟩) ?_
                          refine DOps.st 284 rfl rfl (op_move rfl rfl ⟨rfl, rfl⟩) ?_
                          refine DOps.gf 285 rfl rfl rfl rfl ?_
                          refine DOps.gf 286 rfl rfl rfl rfl ?_
                          refine DOps.gf 287 rfl rfl rfl rfl ?_
                          refine DOps.gf 288 rfl rfl rfl rfl ?_
                          refine DOps.gf 289 rfl rfl rfl rfl ?_
                          refine DOps.gf 290 rfl rfl rfl rfl ?_
                          refine DOps.gf 291 rfl rfl rfl rfl ?_
                          refine DOps.gf 292 rfl rfl rfl rfl ?_
                          refine DOps.gf 293 rfl rfl rfl rfl ?_
                          refine DOps.st 294 rfl rfl (op_pick rfl rfl rfl ⟨rfl, rfl⟩) ?_
                          show BoolQ _ _ _ _ _ _
                          refine BoolQ.mk rfl ?_ (by repeat' (first | exact SLe.wo _ _ | exact SLe.refl _ | refine SLe.fresh rfl ?_)) (by first | exact MLe.none _ | exact MLe.refl _ | (repeat' (first | exact MLe.nil | exact MLe.refl _ | refine MLe.cons _ ?_ | refine MLe.drop _ ?_)))
                          simp only [true_iff]; omega
                      · skip
                        refine DOps.gf 263 rfl rfl rfl rfl ?_
                        refine DOps.gf 264 rfl rfl rfl rfl ?_
                        refine DOps.gf 265 rfl rfl rfl rfl ?_
                        refine DOps.gf 266 rfl rfl rfl rfl ?_
                        refine DOps.gf 267 rfl rfl rfl rfl ?_
                        refine DOps.st 268 rfl rfl (op_pick rfl rfl rfl ⟨rfl, rfl⟩) ?_
                        refine DOps.st 269 rfl rfl (op_move rfl rfl ⟨rfl, rfl⟩) ?_
                        refine DOps.gf 270 rfl rfl rfl rfl ?_
                        refine DOps.gf 271 rfl rfl rfl rfl ?_
                        refine DOps.gf 272 rfl rfl rfl rfl ?_
                        refine DOps.gf 273 rfl rfl rfl rfl ?_
                        refine DOps.gf 274 rfl rfl rfl rfl ?_
                        refine DOps.gf 275 rfl rfl rfl rfl ?_
                        refine DOps.gf 276 rfl rfl rfl rfl ?_
                        refine DOps.gf 277 rfl rfl rfl rfl ?_
                        refine DOps.gf 278 rfl rfl rfl rfl ?_
                        refine DOps.gf 279 rfl rfl rfl rfl ?_
                        refine DOps.gf 280 rfl rfl rfl rfl ?_
                        refine DOps.gf 281 rfl rfl rfl rfl ?_
                        refine DOps.gf 282 rfl rfl rfl rfl ?_
                        refine DOps.st 283 rfl rfl (op_pick rfl rfl rfl ⟨rfl, rfl⟩) ?_
                        refine DOps.st 284 rfl rfl (op_move rfl rfl ⟨rfl, rfl⟩) ?_
                        refine DOps.gf 285 rfl rfl rfl rfl ?_
                        refine DOps.gf 286 rfl rfl rfl rfl ?_
                        refine DOps.gf 287 rfl rfl rfl rfl ?_
                        refine DOps.gf 288 rfl rfl rfl rfl ?_
                        refine DOps.gf 289 rfl rfl rfl rfl ?_
                        refine DOps.gf 290 rfl rfl rfl rfl ?_
                        refine DOps.gf 291 rfl rfl rfl rfl ?_
                        refine DOps.gf 292 rfl rfl rfl rfl ?_
                        refine DOps.gf 293 rfl rfl rfl rfl ?_
                        refine DOps.st 294 rfl rfl (op_pick rfl rfl rfl ⟨rfl, rfl⟩) ?_
                        show BoolQ _ _ _ _ _ _
                        refine BoolQ.mk rfl ?_ (by repeat' (first | exact SLe.wo _ _ | exact SLe.refl _ | refine SLe.fresh rfl ?_)) (by first | exact MLe.none _ | exact MLe.refl _ | (repeat' (first | exact MLe.nil | exact MLe.refl _ | refine MLe.cons _ ?_ | refine MLe.drop _ ?_)))
                        simp only [true_iff]; omega
                    intro c294 h294
                    refine go_code ?_
                    rcases bool_split h294 with ⟨rfl, g294⟩ | ⟨rfl, g294⟩
                    · refine c_cond_f rfl ?_
                      refine c_skip ?_
                      refine go_blk ?_
                      refine go_code ?_
                      refine c_region ?_
                      refine AOps.st 253 rfl rfl rfl (op_move rfl rfl ?_)
                      refine AOps.st 254 rfl rfl rfl (op_add rfl rfl rfl (IntWalk.i64_in _ (by omega)) ?_)
                      refine AOps.st 11 rfl rfl rfl (op_assign rfl rfl ?_)
                      refine AOps.nil ?_
                      refine go_lp ?_
                      refine ⟨k + 1, ⟨by omega, fun j n' l' hj hn hl => ?_⟩, by simp; omega, (by repeat' (first | exact SLe.nil _ | refine SLe.cons rfl ?_ ?_ | exact Le.refl _ | exact Le.own _ _ _ | exact Le.nil _)), (by first | exact MLe.none _ | exact MLe.refl _ | (repeat' (first | exact MLe.nil | exact MLe.refl _ | refine MLe.cons _ ?_ | refine MLe.drop _ ?_)))⟩
                      rcases Nat.lt_or_ge j k with q | q
                      · exact hu j n' l' q hn hl
                      · have : j = k := by omega
                        subst this
                        rw [hxm] at hn; cases hn
                        rw [hxl] at hl; cases hl
                        obtain ⟨q1, q2, q3, q4⟩ := Classical.not_not.1 g294
                        exact ⟨q1, q2, fun g hg => by rw [hw q1 q2] at hg; cases hg; exact q3, q4⟩
                    · refine c_cond_t rfl ?_
                      refine c_seq ?_
                      refine c_region ?_
                      refine AOps.st 8 rfl rfl rfl (op_assign rfl rfl ?_)
                      refine AOps.nil ?_
                      refine go_code ?_
                      refine c_ret ?_
                      exact out_tmp rfl rfl (Le.refl _) (by first | exact MLe.none _ | exact MLe.refl _ | (repeat' (first | exact MLe.nil | exact MLe.refl _ | refine MLe.cons _ ?_ | refine MLe.drop _ ?_))) ⟨⟨_, iff_f (fun q => g294 (by have q' := (q.2.2.2.2.2.2.2.2 (by omega)).2.2.2 k m l hxm hxl; exact ⟨q'.1, q'.2.1, q'.2.2.1 _ (hw q'.1 q'.2.1), q'.2.2.2⟩)), rfl⟩, rfl⟩
                · refine c_cond_t rfl ?_
                  refine c_seq ?_
                  refine c_region ?_
                  refine AOps.st 8 rfl rfl rfl (op_assign rfl rfl ?_)
                  refine AOps.nil ?_
                  refine go_code ?_
                  refine c_ret ?_
                  exact out_tmp rfl rfl (Le.refl _) (by first | exact MLe.none _ | exact MLe.refl _ | (repeat' (first | exact MLe.nil | exact MLe.refl _ | refine MLe.cons _ ?_ | refine MLe.drop _ ?_))) ⟨⟨_, iff_f (fun q => g247 (by have q' := q.2.2.2.2.2.2.2.2 (by omega); exact ⟨q'.1, q'.2.1, q'.2.2.1⟩)), rfl⟩, rfl⟩
              · refine c_cond_t rfl ?_
                refine c_seq ?_
                refine c_bool 8 (fs = [] ∧ ca = []) ?_ _ _ rfl ?_
                · skip
                  refine AOps.st 214 rfl rfl rfl (op_fieldAddr_c rfl tf_46_5 rfl rfl ?_)
                  refine AOps.st 215 rfl rfl rfl (op_load_c1 rfl ta_43 rfl rfl ?_)
                  refine AOps.st 216 rfl rfl rfl (op_len rfl tu_43 rfl (.seq _ _) (fun n216 => ?_))
                  refine AOps.st 217 rfl rfl rfl (op_eql rfl rfl rfl ?_); intro c217 h217
                  refine AOps.st 218 rfl rfl rfl (op_move rfl rfl ?_)
                  rcases bool_split h217 with ⟨rfl, g217⟩ | ⟨rfl, g217⟩
                  · skip
                    refine AOps.gf 219 rfl rfl rfl rfl rfl ?_
                    refine AOps.gf 220 rfl rfl rfl rfl rfl ?_
                    refine AOps.gf 221 rfl rfl rfl rfl rfl ?_
                    refine AOps.gf 222 rfl rfl rfl rfl rfl ?_
                    refine AOps.st 223 rfl rfl rfl (op_pick rfl rfl rfl ?_)
                    refine AOps.st 8 rfl rfl rfl (op_assign rfl rfl ?_)
                    refine AOps.nil ?_
                    refine BoolQ.mk rfl ?_ (by repeat' (first | exact SLe.wo _ _ | exact SLe.refl _ | refine SLe.fresh rfl ?_)) (by first | exact MLe.none _ | exact MLe.refl _ | (repeat' (first | exact MLe.nil | exact MLe.refl _ | refine MLe.cons _ ?_ | refine MLe.drop _ ?_)))
                    simp_all; done
                  · skip
                    refine AOps.gt 219 rfl rfl rfl rfl rfl (op_fieldAddr_c rfl tf_46_6 rfl rfl ?_)
                    refine AOps.gt 220 rfl rfl rfl rfl rfl (op_load_c1 rfl ta_44 rfl rfl ?_)
                    refine AOps.gt 221 rfl rfl rfl rfl rfl (op_len rfl tu_44 rfl (.seq _ _) (fun n221 => ?_))
                    refine AOps.gt 222 rfl rfl rfl rfl rfl (op_eql rfl rfl rfl ?_); intro c222 h222
                    refine AOps.st 223 rfl rfl rfl (op_pick rfl rfl rfl ?_)
                    refine AOps.st 8 rfl rfl rfl (op_assign rfl rfl ?_)
                    refine AOps.nil ?_
                    refine BoolQ.mk rfl ?_ (by repeat' (first | exact SLe.wo _ _ | exact SLe.refl _ | refine SLe.fresh rfl ?_)) (by first | exact MLe.none _ | exact MLe.refl _ | (repeat' (first | exact MLe.nil | exact MLe.refl _ | refine MLe.cons _ ?_ | refine MLe.drop _ ?_)))
                    simp_all; done
                intro c8 h8
                refine go_code ?_
                refine c_ret ?_
                exact out_tmp rfl rfl (Le.refl _) (by first | exact MLe.none _ | exact MLe.refl _ | (repeat' (first | exact MLe.nil | exact MLe.refl _ | refine MLe.cons _ ?_ | refine MLe.drop _ ?_))) ⟨⟨_, h8.trans ⟨fun q => ⟨e1, e2, e3, e4, e5, e6, e7, fun _ => q, by omega⟩, fun q => q.2.2.2.2.2.2.2.1 g213⟩, rfl⟩, rfl⟩
            · refine c_cond_t rfl ?_
              refine c_seq ?_
              refine c_region ?_
              refine AOps.st 8 rfl rfl rfl (op_assign rfl rfl ?_)
              refine AOps.nil ?_
              refine go_code ?_
              refine c_ret ?_
              exact out_tmp rfl rfl (Le.refl _) (by first | exact MLe.none _ | exact MLe.refl _ | (repeat' (first | exact MLe.nil | exact MLe.refl _ | refine MLe.cons _ ?_ | refine MLe.drop _ ?_))) ⟨⟨_, iff_f (fun q => g210 q.2.2.2.2.2.2.1), rfl⟩, rfl⟩
          · refine c_cond_t rfl ?_
            refine c_seq ?_
            refine c_region ?_
            refine AOps.st 8 rfl rfl rfl (op_assign rfl rfl ?_)
            refine AOps.nil ?_
            refine go_code ?_
            refine c_ret ?_
            exact out_tmp rfl rfl (Le.refl _) (by first | exact MLe.none _ | exact MLe.refl _ | (repeat' (first | exact MLe.nil | exact MLe.refl _ | refine MLe.cons _ ?_ | refine MLe.drop _ ?_))) ⟨⟨_, iff_f (fun q => g198 q.2.2.2.2.2.1), rfl⟩, rfl⟩
        · refine c_cond_t rfl ?_
          refine c_seq ?_
          refine c_region ?_
          refine AOps.st 8 rfl rfl rfl (op_assign rfl rfl ?_)
          refine AOps.nil ?_
          refine go_code ?_
          refine c_ret ?_
          exact out_tmp rfl rfl (Le.refl _) (by first | exact MLe.none _ | exact MLe.refl _ | (repeat' (first | exact MLe.nil | exact MLe.refl _ | refine MLe.cons _ ?_ | refine MLe.drop _ ?_))) ⟨⟨_, iff_f (fun q => g159 q.2.2.2.2.1), rfl⟩, rfl⟩
      · refine c_cond_t rfl ?_
        refine c_seq ?_
        refine c_region ?_
        refine AOps.st 8 rfl rfl rfl (op_assign rfl rfl ?_)
        refine AOps.nil ?_
        refine go_code ?_
        refine c_ret ?_
        exact out_tmp rfl rfl (Le.refl _) (by first | exact MLe.none _ | exact MLe.refl _ | (repeat' (first | exact MLe.nil | exact MLe.refl _ | refine MLe.cons _ ?_ | refine MLe.drop _ ?_))) ⟨⟨_, iff_f (fun q => g120 q.2.2.2.1), rfl⟩, rfl⟩
    · refine c_cond_t rfl ?_
      refine c_seq ?_
      refine c_region ?_
      refine AOps.st 8 rfl rfl rfl (op_assign rfl rfl ?_)
      refine AOps.nil ?_
      refine go_code ?_
      refine c_ret ?_
      exact out_tmp rfl rfl (Le.refl _) (by first | exact MLe.none _ | exact MLe.refl _ | (repeat' (first | exact MLe.nil | exact MLe.refl _ | refine MLe.cons _ ?_ | refine MLe.drop _ ?_))) ⟨⟨_, iff_f (fun q => g80 q.2.2.1), rfl⟩, rfl⟩
  · refine c_cond_t rfl ?_
    refine c_seq ?_
    refine c_region ?_
    refine AOps.st 8 rfl rfl rfl (op_assign rfl rfl ?_)
    refine AOps.nil ?_
    refine go_code ?_
    refine c_ret ?_
    exact out_tmp rfl rfl (Le.refl _) (by first | exact MLe.none _ | exact MLe.refl _ | (repeat' (first | exact MLe.nil | exact MLe.refl _ | refine MLe.cons _ ?_ | refine MLe.drop _ ?_))) ⟨⟨_, iff_f (fun q => g25 ⟨q.1, q.2.1⟩), rfl⟩, rfl⟩
end Go.Proofs.Ytadhakcmfkghbaa
