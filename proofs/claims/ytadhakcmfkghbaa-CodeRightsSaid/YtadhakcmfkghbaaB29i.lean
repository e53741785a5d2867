/- code.checker.number, fix, ins -/
import Derived.Test.YtadhakcmfkghbaaB29r
namespace Go.Proofs.Ytadhakcmfkghbaa
open Go.RowKit
set_option maxHeartbeats 4000000 in
set_option maxRecDepth 100000 in
theorem number_c (c : Cd) (f : Cf) (fr to : Int) (ps : List Pm) (i : Is) (fa fb fn fg : Bool) (ag : Int) (hps : ps.length ≤ 1000) : BCall Try.prog 43 [.agg (ckCells c f fr to ps), .agg i.cells, .agg [.val (.bool fa), .val (.bool fb), .val (.bool fn), .val (.bool fg), .val (.int .i64 ag)]] (NumP ps i fn ag) := by
  obtain ⟨is, fu, tx, gl, ys, no⟩ := c
  obtain ⟨fl, sl, cp⟩ := f
  obtain ⟨op, a, b, n, ar, fs, ca⟩ := i
  have hla := Ato.cellss_len ar
  have hlp := Pm.cellss_len ps
  obtain ⟨⟨ws, wo, wn, ⟨wv, wp, ⟨wk, wt, wm, wl⟩⟩⟩, hw⟩ : ∃ p : Pm, 1 ≤ n → n ≤ ps.length → ps[(n - 1).toNat]? = some p := by
    by_cases q : 1 ≤ n ∧ n ≤ ps.length
    · exact ⟨ps[(n - 1).toNat]'(by omega), fun _ _ => List.getElem?_eq_getElem (by omega)⟩
    · exact ⟨⟨⟨#[]⟩, 0, 0, ⟨[], [], ⟨0, ⟨#[]⟩, 0, []⟩⟩⟩, fun h1 h2 => absurd ⟨h1, h2⟩ q⟩
  show BCall _ _ _ ((op = 3 → 0 < ar.length ∧ 0 ≤ n ∧ n ≤ 65535) ∧ (op = 8 → 1 ≤ n ∧ n ≤ ps.length ∧ ∀ p, ps[(n - 1).toNat]? = some p → (ar.length : Int) = p.n) ∧ (op = 9 ∨ op = 12 → 0 ≤ n ∧ n ≤ 1048576 ∧ (ar.length : Int) = ag) ∧ (op ≠ 3 ∧ op ≠ 8 ∧ op ≠ 9 ∧ op ≠ 12 → (fn = true ∨ n = 0) ∧ (ar.length : Int) = ag))
  refine ACall.enter Try.func43 rfl (by kernel_rfl) rfl (Nat.le_of_ble_eq_true rfl) ?_
  refine c_start ?_
  refine c_seq ?_
  refine c_region ?_
  refine AOps.st 3 rfl rfl rfl (op_boxc (cs' := [_, _, _, _, _, _, _, _, _, _, _, _]) rfl rfl rfl rfl ?_)
  refine AOps.st 4 rfl rfl rfl (op_boxc (cs' := [_, _, _, _, _, _, _]) rfl rfl rfl rfl ?_)
  refine AOps.st 5 rfl rfl rfl (op_boxc (cs' := [_, _, _, _, _]) rfl rfl rfl rfl ?_)
  refine AOps.st 6 rfl rfl rfl (op_assign rfl rfl ?_)
  refine AOps.nil ?_
  refine go_code ?_
  refine c_seq ?_
  refine c_seq ?_
  refine c_region ?_
  refine AOps.st 7 rfl rfl rfl (op_fieldAddr_c rfl tf_46_0 rfl rfl ?_)
  refine AOps.st 8 rfl rfl rfl (op_load_c1 rfl ta_3 rfl rfl ?_)
  refine AOps.nil ?_
  refine go_code ?_
  refine c_block ?_
  refine c_seq ?_
  refine c_region ?_
  refine AOps.st 10 rfl rfl rfl (op_eql rfl rfl rfl ?_); intro c10 h10
  refine AOps.st 9 rfl rfl rfl (op_assign rfl rfl ?_)
  refine AOps.nil ?_
  refine go_code ?_
  rcases bool_split h10 with ⟨rfl, g10⟩ | ⟨rfl, g10⟩
  · refine c_cond_f rfl ?_
    refine c_seq ?_
    refine c_region ?_
    refine AOps.st 26 rfl rfl rfl (op_eql rfl rfl rfl ?_); intro c26 h26
    refine AOps.st 25 rfl rfl rfl (op_assign rfl rfl ?_)
    refine AOps.nil ?_
    refine go_code ?_
    rcases bool_split h26 with ⟨rfl, g26⟩ | ⟨rfl, g26⟩
    · refine c_cond_f rfl ?_
      refine c_seq ?_
      refine c_seq ?_
      refine c_region ?_
      refine AOps.st 53 rfl rfl rfl (op_eql rfl rfl rfl ?_); intro c53 h53
      refine AOps.st 52 rfl rfl rfl (op_assign rfl rfl ?_)
      refine AOps.nil ?_
      refine go_code ?_
      rcases bool_split h53 with ⟨rfl, g53⟩ | ⟨rfl, g53⟩
      · refine c_cond_f rfl ?_
        refine c_region ?_
        refine AOps.st 54 rfl rfl rfl (op_eql rfl rfl rfl ?_); intro c54 h54
        refine AOps.st 52 rfl rfl rfl (op_assign rfl rfl ?_)
        refine AOps.nil ?_
        refine go_code ?_
        rcases bool_split h54 with ⟨rfl, g54⟩ | ⟨rfl, g54⟩
        · refine c_cond_f rfl ?_
          refine c_skip ?_
          refine go_blk ?_
          refine go_code ?_
          refine c_seq ?_
          refine c_bool 6 ((fn = true ∨ n = 0) ∧ (ar.length : Int) = ag) ?_ _ _ rfl ?_
          · skip
            refine AOps.st 71 rfl rfl rfl (op_fieldAddr_c rfl tf_91_2 rfl rfl ?_)
            refine AOps.st 72 rfl rfl rfl (op_load_c1 rfl ta_4 rfl rfl ?_)
            have h72 : (fn = true ↔ fn = true) := Iff.rfl
            refine AOps.st 73 rfl rfl rfl (op_move rfl rfl ?_)
            rcases bool_split h72 with ⟨rfl, g72⟩ | ⟨rfl, g72⟩
            · skip
              refine AOps.gt 74 rfl rfl rfl rfl rfl (op_fieldAddr_c rfl tf_46_3 rfl rfl ?_)
              refine AOps.gt 75 rfl rfl rfl rfl rfl (op_load_c1 rfl ta_2 rfl rfl ?_)
              refine AOps.gt 76 rfl rfl rfl rfl rfl (op_eql rfl rfl rfl ?_); intro c76 h76
              refine AOps.st 77 rfl rfl rfl (op_pick rfl rfl rfl ?_)
              refine AOps.st 78 rfl rfl rfl (op_move rfl rfl ?_)
              rcases bool_split h76 with ⟨rfl, g76⟩ | ⟨rfl, g76⟩
              · skip
                refine AOps.gf 79 rfl rfl rfl rfl rfl ?_
                refine AOps.gf 80 rfl rfl rfl rfl rfl ?_
                refine AOps.gf 81 rfl rfl rfl rfl rfl ?_
                refine AOps.gf 82 rfl rfl rfl rfl rfl ?_
                refine AOps.gf 83 rfl rfl rfl rfl rfl ?_
                refine AOps.gf 84 rfl rfl rfl rfl rfl ?_
                refine AOps.st 85 rfl rfl rfl (op_pick rfl rfl rfl ?_)
                refine AOps.st 6 rfl rfl rfl (op_assign rfl rfl ?_)
                refine AOps.nil ?_
                refine BoolQ.mk rfl ?_ (by repeat' (first | exact SLe.wo _ _ | exact SLe.refl _ | refine SLe.fresh rfl ?_)) (by first | exact MLe.none _ | exact MLe.refl _ | (repeat' (first | exact MLe.nil | exact MLe.refl _ | refine MLe.cons _ ?_ | refine MLe.drop _ ?_)))
                simp_all; done
              · skip
                refine AOps.gt 79 rfl rfl rfl rfl rfl (op_fieldAddr_c rfl tf_46_4 rfl rfl ?_)
                refine AOps.gt 80 rfl rfl rfl rfl rfl (op_load_c1 rfl ta_42 rfl rfl ?_)
                refine AOps.gt 81 rfl rfl rfl rfl rfl (op_len rfl tu_42 rfl (.seq _ _) (fun n81 => ?_))
                refine AOps.gt 82 rfl rfl rfl rfl rfl (op_fieldAddr_c rfl tf_91_4 rfl rfl ?_)
                refine AOps.gt 83 rfl rfl rfl rfl rfl (op_load_c1 rfl ta_3 rfl rfl ?_)
                refine AOps.gt 84 rfl rfl rfl rfl rfl (op_eql rfl rfl rfl ?_); intro c84 h84
                refine AOps.st 85 rfl rfl rfl (op_pick rfl rfl rfl ?_)
                refine AOps.st 6 rfl rfl rfl (op_assign rfl rfl ?_)
                refine AOps.nil ?_
                refine BoolQ.mk rfl ?_ (by repeat' (first | exact SLe.wo _ _ | exact SLe.refl _ | refine SLe.fresh rfl ?_)) (by first | exact MLe.none _ | exact MLe.refl _ | (repeat' (first | exact MLe.nil | exact MLe.refl _ | refine MLe.cons _ ?_ | refine MLe.drop _ ?_)))
                simp_all; done
            · skip
              refine AOps.gf 74 rfl rfl rfl rfl rfl ?_
              refine AOps.gf 75 rfl rfl rfl rfl rfl ?_
              refine AOps.gf 76 rfl rfl rfl rfl rfl ?_
              refine AOps.st 77 rfl rfl rfl (op_pick rfl rfl rfl ?_)
              refine AOps.st 78 rfl rfl rfl (op_move rfl rfl ?_)
              refine AOps.gt 79 rfl rfl rfl rfl rfl (op_fieldAddr_c rfl tf_46_4 rfl rfl ?_)
              refine AOps.gt 80 rfl rfl rfl rfl rfl (op_load_c1 rfl ta_42 rfl rfl ?_)
              refine AOps.gt 81 rfl rfl rfl rfl rfl (op_len rfl tu_42 rfl (.seq _ _) (fun n81 => ?_))
              refine AOps.gt 82 rfl rfl rfl rfl rfl (op_fieldAddr_c rfl tf_91_4 rfl rfl ?_)
              refine AOps.gt 83 rfl rfl rfl rfl rfl (op_load_c1 rfl ta_3 rfl rfl ?_)
              refine AOps.gt 84 rfl rfl rfl rfl rfl (op_eql rfl rfl rfl ?_); intro c84 h84
              refine AOps.st 85 rfl rfl rfl (op_pick rfl rfl rfl ?_)
              refine AOps.st 6 rfl rfl rfl (op_assign rfl rfl ?_)
              refine AOps.nil ?_
              refine BoolQ.mk rfl ?_ (by repeat' (first | exact SLe.wo _ _ | exact SLe.refl _ | refine SLe.fresh rfl ?_)) (by first | exact MLe.none _ | exact MLe.refl _ | (repeat' (first | exact MLe.nil | exact MLe.refl _ | refine MLe.cons _ ?_ | refine MLe.drop _ ?_)))
              simp_all; done
          intro c6 h6
          refine go_code ?_
          refine c_ret ?_
          exact out_tmp rfl rfl (Le.refl _) (by first | exact MLe.none _ | exact MLe.refl _ | (repeat' (first | exact MLe.nil | exact MLe.refl _ | refine MLe.cons _ ?_ | refine MLe.drop _ ?_))) ⟨⟨_, h6.trans ⟨fun q => ⟨by omega, by omega, by omega, fun _ => q⟩, fun q => q.2.2.2 (by omega)⟩, rfl⟩, rfl⟩
        · refine c_cond_t rfl ?_
          refine c_seq ?_
          refine c_bool 6 (0 ≤ n ∧ n ≤ 1048576 ∧ (ar.length : Int) = ag) ?_ _ _ rfl ?_
          · skip
            refine AOps.st 55 rfl rfl rfl (op_fieldAddr_c rfl tf_46_3 rfl rfl ?_)
            refine AOps.st 56 rfl rfl rfl (op_load_c1 rfl ta_2 rfl rfl ?_)
            refine AOps.st 57 rfl rfl rfl (op_geq rfl rfl rfl ?_); intro c57 h57
            refine AOps.st 58 rfl rfl rfl (op_move rfl rfl ?_)
            rcases bool_split h57 with ⟨rfl, g57⟩ | ⟨rfl, g57⟩
            · skip
              refine AOps.gf 59 rfl rfl rfl rfl rfl ?_
              refine AOps.gf 60 rfl rfl rfl rfl rfl ?_
              refine AOps.gf 61 rfl rfl rfl rfl rfl ?_
              refine AOps.st 62 rfl rfl rfl (op_pick rfl rfl rfl ?_)
              refine AOps.st 63 rfl rfl rfl (op_move rfl rfl ?_)
              refine AOps.gf 64 rfl rfl rfl rfl rfl ?_
              refine AOps.gf 65 rfl rfl rfl rfl rfl ?_
              refine AOps.gf 66 rfl rfl rfl rfl rfl ?_
              refine AOps.gf 67 rfl rfl rfl rfl rfl ?_
              refine AOps.gf 68 rfl rfl rfl rfl rfl ?_
              refine AOps.gf 69 rfl rfl rfl rfl rfl ?_
              refine AOps.st 70 rfl rfl rfl (op_pick rfl rfl rfl ?_)
              refine AOps.st 6 rfl rfl rfl (op_assign rfl rfl ?_)
              refine AOps.nil ?_
              refine BoolQ.mk rfl ?_ (by repeat' (first | exact SLe.wo _ _ | exact SLe.refl _ | refine SLe.fresh rfl ?_)) (by first | exact MLe.none _ | exact MLe.refl _ | (repeat' (first | exact MLe.nil | exact MLe.refl _ | refine MLe.cons _ ?_ | refine MLe.drop _ ?_)))
              first | (simp_all; done) | (simp_all; omega)
            · skip
              refine AOps.gt 59 rfl rfl rfl rfl rfl (op_fieldAddr_c rfl tf_46_3 rfl rfl ?_)
              refine AOps.gt 60 rfl rfl rfl rfl rfl (op_load_c1 rfl ta_2 rfl rfl ?_)
              refine AOps.gt 61 rfl rfl rfl rfl rfl (op_leq rfl rfl rfl ?_); intro c61 h61
              refine AOps.st 62 rfl rfl rfl (op_pick rfl rfl rfl ?_)
              refine AOps.st 63 rfl rfl rfl (op_move rfl rfl ?_)
              rcases bool_split h61 with ⟨rfl, g61⟩ | ⟨rfl, g61⟩
              · skip
                refine AOps.gf 64 rfl rfl rfl rfl rfl ?_
                refine AOps.gf 65 rfl rfl rfl rfl rfl ?_
                refine AOps.gf 66 rfl rfl rfl rfl rfl ?_
                refine AOps.gf 67 rfl rfl rfl rfl rfl ?_
                refine AOps.gf 68 rfl rfl rfl rfl rfl ?_
                refine AOps.gf 69 rfl rfl rfl rfl rfl ?_
                refine AOps.st 70 rfl rfl rfl (op_pick rfl rfl rfl ?_)
                refine AOps.st 6 rfl rfl rfl (op_assign rfl rfl ?_)
                refine AOps.nil ?_
                refine BoolQ.mk rfl ?_ (by repeat' (first | exact SLe.wo _ _ | exact SLe.refl _ | refine SLe.fresh rfl ?_)) (by first | exact MLe.none _ | exact MLe.refl _ | (repeat' (first | exact MLe.nil | exact MLe.refl _ | refine MLe.cons _ ?_ | refine MLe.drop _ ?_)))
                first | (simp_all; done) | (simp_all; omega)
              · skip
                refine AOps.gt 64 rfl rfl rfl rfl rfl (op_fieldAddr_c rfl tf_46_4 rfl rfl ?_)
                refine AOps.gt 65 rfl rfl rfl rfl rfl (op_load_c1 rfl ta_42 rfl rfl ?_)
                refine AOps.gt 66 rfl rfl rfl rfl rfl (op_len rfl tu_42 rfl (.seq _ _) (fun n66 => ?_))
                refine AOps.gt 67 rfl rfl rfl rfl rfl (op_fieldAddr_c rfl tf_91_4 rfl rfl ?_)
                refine AOps.gt 68 rfl rfl rfl rfl rfl (op_load_c1 rfl ta_3 rfl rfl ?_)
                refine AOps.gt 69 rfl rfl rfl rfl rfl (op_eql rfl rfl rfl ?_); intro c69 h69
                refine AOps.st 70 rfl rfl rfl (op_pick rfl rfl rfl ?_)
                refine AOps.st 6 rfl rfl rfl (op_assign rfl rfl ?_)
                refine AOps.nil ?_
                refine BoolQ.mk rfl ?_ (by repeat' (first | exact SLe.wo _ _ | exact SLe.refl _ | refine SLe.fresh rfl ?_)) (by first | exact MLe.none _ | exact MLe.refl _ | (repeat' (first | exact MLe.nil | exact MLe.refl _ | refine MLe.cons _ ?_ | refine MLe.drop _ ?_)))
                simp_all; done
          intro c6 h6
          refine go_code ?_
          refine c_ret ?_
          exact out_tmp rfl rfl (Le.refl _) (by first | exact MLe.none _ | exact MLe.refl _ | (repeat' (first | exact MLe.nil | exact MLe.refl _ | refine MLe.cons _ ?_ | refine MLe.drop _ ?_))) ⟨⟨_, h6.trans ⟨fun q => ⟨by omega, by omega, fun _ => q, by omega⟩, fun q => q.2.2.1 (by omega)⟩, rfl⟩, rfl⟩
      · refine c_cond_t rfl ?_
        refine c_skip ?_
        refine go_code ?_
        refine c_cond_t rfl ?_
        refine c_seq ?_
        refine c_bool 6 (0 ≤ n ∧ n ≤ 1048576 ∧ (ar.length : Int) = ag) ?_ _ _ rfl ?_
        · skip
          refine AOps.st 55 rfl rfl rfl (op_fieldAddr_c rfl tf_46_3 rfl rfl ?_)
          refine AOps.st 56 rfl rfl rfl (op_load_c1 rfl ta_2 rfl rfl ?_)
          refine AOps.st 57 rfl rfl rfl (op_geq rfl rfl rfl ?_); intro c57 h57
          refine AOps.st 58 rfl rfl rfl (op_move rfl rfl ?_)
          rcases bool_split h57 with ⟨rfl, g57⟩ | ⟨rfl, g57⟩
          · skip
            refine AOps.gf 59 rfl rfl rfl rfl rfl ?_
            refine AOps.gf 60 rfl rfl rfl rfl rfl ?_
            refine AOps.gf 61 rfl rfl rfl rfl rfl ?_
            refine AOps.st 62 rfl rfl rfl (op_pick rfl rfl rfl ?_)
            refine AOps.st 63 rfl rfl rfl (op_move rfl rfl ?_)
            refine AOps.gf 64 rfl rfl rfl rfl rfl ?_
            refine AOps.gf 65 rfl rfl rfl rfl rfl ?_
            refine AOps.gf 66 rfl rfl rfl rfl rfl ?_
            refine AOps.gf 67 rfl rfl rfl rfl rfl ?_
            refine AOps.gf 68 rfl rfl rfl rfl rfl ?_
            refine AOps.gf 69 rfl rfl rfl rfl rfl ?_
            refine AOps.st 70 rfl rfl rfl (op_pick rfl rfl rfl ?_)
            refine AOps.st 6 rfl rfl rfl (op_assign rfl rfl ?_)
            refine AOps.nil ?_
            refine BoolQ.mk rfl ?_ (by repeat' (first | exact SLe.wo _ _ | exact SLe.refl _ | refine SLe.fresh rfl ?_)) (by first | exact MLe.none _ | exact MLe.refl _ | (repeat' (first | exact MLe.nil | exact MLe.refl _ | refine MLe.cons _ ?_ | refine MLe.drop _ ?_)))
            first | (simp_all; done) | (simp_all; omega)
          · skip
            refine AOps.gt 59 rfl rfl rfl rfl rfl (op_fieldAddr_c rfl tf_46_3 rfl rfl ?_)
            refine AOps.gt 60 rfl rfl rfl rfl rfl (op_load_c1 rfl ta_2 rfl rfl ?_)
            refine AOps.gt 61 rfl rfl rfl rfl rfl (op_leq rfl rfl rfl ?_); intro c61 h61
            refine AOps.st 62 rfl rfl rfl (op_pick rfl rfl rfl ?_)
            refine AOps.st 63 rfl rfl rfl (op_move rfl rfl ?_)
            rcases bool_split h61 with ⟨rfl, g61⟩ | ⟨rfl, g61⟩
            · skip
              refine AOps.gf 64 rfl rfl rfl rfl rfl ?_
              refine AOps.gf 65 rfl rfl rfl rfl rfl ?_
              refine AOps.gf 66 rfl rfl rfl rfl rfl ?_
              refine AOps.gf 67 rfl rfl rfl rfl rfl ?_
              refine AOps.gf 68 rfl rfl rfl rfl rfl ?_
              refine AOps.gf 69 rfl rfl rfl rfl rfl ?_
              refine AOps.st 70 rfl rfl rfl (op_pick rfl rfl rfl ?_)
              refine AOps.st 6 rfl rfl rfl (op_assign rfl rfl ?_)
              refine AOps.nil ?_
              refine BoolQ.mk rfl ?_ (by repeat' (first | exact SLe.wo _ _ | exact SLe.refl _ | refine SLe.fresh rfl ?_)) (by first | exact MLe.none _ | exact MLe.refl _ | (repeat' (first | exact MLe.nil | exact MLe.refl _ | refine MLe.cons _ ?_ | refine MLe.drop _ ?_)))
              first | (simp_all; done) | (simp_all; omega)
            · skip
              refine AOps.gt 64 rfl rfl rfl rfl rfl (op_fieldAddr_c rfl tf_46_4 rfl rfl ?_)
              refine AOps.gt 65 rfl rfl rfl rfl rfl (op_load_c1 rfl ta_42 rfl rfl ?_)
              refine AOps.gt 66 rfl rfl rfl rfl rfl (op_len rfl tu_42 rfl (.seq _ _) (fun n66 => ?_))
              refine AOps.gt 67 rfl rfl rfl rfl rfl (op_fieldAddr_c rfl tf_91_4 rfl rfl ?_)
              refine AOps.gt 68 rfl rfl rfl rfl rfl (op_load_c1 rfl ta_3 rfl rfl ?_)
              refine AOps.gt 69 rfl rfl rfl rfl rfl (op_eql rfl rfl rfl ?_); intro c69 h69
              refine AOps.st 70 rfl rfl rfl (op_pick rfl rfl rfl ?_)
              refine AOps.st 6 rfl rfl rfl (op_assign rfl rfl ?_)
              refine AOps.nil ?_
              refine BoolQ.mk rfl ?_ (by repeat' (first | exact SLe.wo _ _ | exact SLe.refl _ | refine SLe.fresh rfl ?_)) (by first | exact MLe.none _ | exact MLe.refl _ | (repeat' (first | exact MLe.nil | exact MLe.refl _ | refine MLe.cons _ ?_ | refine MLe.drop _ ?_)))
              simp_all; done
        intro c6 h6
        refine go_code ?_
        refine c_ret ?_
        exact out_tmp rfl rfl (Le.refl _) (by first | exact MLe.none _ | exact MLe.refl _ | (repeat' (first | exact MLe.nil | exact MLe.refl _ | refine MLe.cons _ ?_ | refine MLe.drop _ ?_))) ⟨⟨_, h6.trans ⟨fun q => ⟨by omega, by omega, fun _ => q, by omega⟩, fun q => q.2.2.1 (by omega)⟩, rfl⟩, rfl⟩
    · refine c_cond_t rfl ?_
      refine c_seq ?_
      refine c_boold 6 (1 ≤ n ∧ n ≤ ps.length ∧ (ar.length : Int) = wn) tmix rfl ?_ _ _ rfl ?_
      · skip
        refine DOps.st 27 rfl rfl (op_fieldAddr_c rfl tf_46_3 rfl rfl ⟨rfl, rfl⟩) ?_
        refine DOps.st 28 rfl rfl (op_load_c1 rfl ta_2 rfl rfl ⟨rfl, rfl⟩) ?_
        refine DOps.cm 29 rfl rfl (fun _ q => op_geq rfl rfl rfl q) ?_; intro c29 h29
        refine DOps.st 30 rfl rfl (op_move rfl rfl ⟨rfl, rfl⟩) ?_
        rcases bool_split h29 with ⟨rfl, g29⟩ | ⟨rfl, g29⟩
        · skip
          refine DOps.gf 31 rfl rfl rfl rfl ?_
          refine DOps.gf 32 rfl rfl rfl rfl ?_
          refine DOps.gf 33 rfl rfl rfl rfl ?_
          refine DOps.gf 34 rfl rfl rfl rfl ?_
          refine DOps.gf 35 rfl rfl rfl rfl ?_
          refine DOps.gf 36 rfl rfl rfl rfl ?_
          refine DOps.st 37 rfl rfl (op_pick rfl rfl rfl ⟨rfl, rfl⟩) ?_
          refine DOps.st 38 rfl rfl (op_move rfl rfl ⟨rfl, rfl⟩) ?_
          refine DOps.gf 39 rfl rfl rfl rfl ?_
          refine DOps.gf 40 rfl rfl rfl rfl ?_
          refine DOps.gf 41 rfl rfl rfl rfl ?_
          refine DOps.gf 42 rfl rfl rfl rfl ?_
          refine DOps.gf 43 rfl rfl rfl rfl ?_
          refine DOps.gf 44 rfl rfl rfl rfl ?_
          refine DOps.gf 45 rfl rfl rfl rfl ?_
          refine DOps.gf 46 rfl rfl rfl rfl ?_
          refine DOps.gf 47 rfl rfl rfl rfl ?_
          refine DOps.gf 48 rfl rfl rfl rfl ?_
          refine DOps.gf 49 rfl rfl rfl rfl ?_
          refine DOps.gf 50 rfl rfl rfl rfl ?_
          refine DOps.st 51 rfl rfl (op_pick rfl rfl rfl ⟨rfl, rfl⟩) ?_
          refine DOps.st 6 rfl rfl (op_assign rfl rfl ⟨rfl, rfl⟩) ?_
          show BoolQ _ _ _ _ _ _
          refine BoolQ.mk rfl ?_ (by repeat' (first | exact SLe.wo _ _ | exact SLe.refl _ | refine SLe.fresh rfl ?_)) (by first | exact MLe.none _ | exact MLe.refl _ | (repeat' (first | exact MLe.nil | exact MLe.refl _ | refine MLe.cons _ ?_ | refine MLe.drop _ ?_)))
          first | (simp_all; done) | (simp_all; omega)
        · skip
          refine DOps.gt 31 rfl rfl rfl rfl (op_fieldAddr_c rfl tf_46_3 rfl rfl ⟨rfl, rfl⟩) ?_
          refine DOps.gt 32 rfl rfl rfl rfl (op_load_c1 rfl ta_2 rfl rfl ⟨rfl, rfl⟩) ?_
          refine DOps.gt 33 rfl rfl rfl rfl (op_fieldAddr_c rfl tf_53_4 rfl rfl ⟨rfl, rfl⟩) ?_
          refine DOps.gt 34 rfl rfl rfl rfl (op_load_c1 rfl ta_50 rfl rfl ⟨rfl, rfl⟩) ?_
          refine DOps.gt 35 rfl rfl rfl rfl (op_len rfl tu_50 rfl (.seq _ _) (fun _ => ⟨rfl, rfl⟩)) ?_
          refine DOps.gtc 36 rfl rfl rfl rfl (fun _ q => op_leq rfl rfl rfl q) ?_; intro c36 h36
          refine DOps.st 37 rfl rfl (op_pick rfl rfl rfl ⟨rfl, rfl⟩) ?_
          refine DOps.st 38 rfl rfl (op_move rfl rfl ⟨rfl, rfl⟩) ?_
          rcases bool_split h36 with ⟨rfl, g36⟩ | ⟨rfl, g36⟩
          · skip
            refine DOps.gf 39 rfl rfl rfl rfl ?_
            refine DOps.gf 40 rfl rfl rfl rfl ?_
            refine DOps.gf 41 rfl rfl rfl rfl ?_
            refine DOps.gf 42 rfl rfl rfl rfl ?_
            refine DOps.gf 43 rfl rfl rfl rfl ?_
            refine DOps.gf 44 rfl rfl rfl rfl ?_
            refine DOps.gf 45 rfl rfl rfl rfl ?_
            refine DOps.gf 46 rfl rfl rfl rfl ?_
            refine DOps.gf 47 rfl rfl rfl rfl ?_
            refine DOps.gf 48 rfl rfl rfl rfl ?_
            refine DOps.gf 49 rfl rfl rfl rfl ?_
            refine DOps.gf 50 rfl rfl rfl rfl ?_
            refine DOps.st 51 rfl rfl (op_pick rfl rfl rfl ⟨rfl, rfl⟩) ?_
            refine DOps.st 6 rfl rfl (op_assign rfl rfl ⟨rfl, rfl⟩) ?_
            show BoolQ _ _ _ _ _ _
            refine BoolQ.mk rfl ?_ (by repeat' (first | exact SLe.wo _ _ | exact SLe.refl _ | refine SLe.fresh rfl ?_)) (by first | exact MLe.none _ | exact MLe.refl _ | (repeat' (first | exact MLe.nil | exact MLe.refl _ | refine MLe.cons _ ?_ | refine MLe.drop _ ?_)))
            first | (simp_all; done) | (simp_all; omega)
          · skip
            refine DOps.gt 39 rfl rfl rfl rfl (op_fieldAddr_c rfl tf_46_4 rfl rfl ⟨rfl, rfl⟩) ?_
            refine DOps.gt 40 rfl rfl rfl rfl (op_load_c1 rfl ta_42 rfl rfl ⟨rfl, rfl⟩) ?_
            refine DOps.gt 41 rfl rfl rfl rfl (op_len rfl tu_42 rfl (.seq _ _) (fun _ => ⟨rfl, rfl⟩)) ?_
            refine DOps.gt 42 rfl rfl rfl rfl (op_fieldAddr_c rfl tf_53_4 rfl rfl ⟨rfl, rfl⟩) ?_
            refine DOps.gt 43 rfl rfl rfl rfl (op_load_c1 rfl ta_50 rfl rfl ⟨rfl, rfl⟩) ?_
            refine DOps.gt 44 rfl rfl rfl rfl (op_fieldAddr_c rfl tf_46_3 rfl rfl ⟨rfl, rfl⟩) ?_
            refine DOps.gt 45 rfl rfl rfl rfl (op_load_c1 rfl ta_2 rfl rfl ⟨rfl, rfl⟩) ?_
            refine DOps.gt 46 rfl rfl rfl rfl (op_sub rfl rfl rfl (IntWalk.i64_in _ (by omega)) ⟨rfl, rfl⟩) ?_
            first | (refine DOps.gt 47 rfl rfl rfl rfl (op_index rfl te_50 rfl (.seq _ _) rfl rfl (Pm.cellss_get (hw (by omega) (by omega))) ⟨rfl, rfl⟩) ?_) | (refine DOps.gt 47 rfl rfl rfl rfl (op_index (i := 0) rfl te_50 rfl (.seq _ _) rfl rfl (by first | rfl | assumption) ⟨rfl, rfl⟩) ?_) | (refine DOps.gt 47 rfl rfl rfl rfl (op_index (i := 1) rfl te_50 rfl (.seq _ _) rfl rfl (by first | rfl | assumption) ⟨rfl, rfl⟩) ?_) | (refine DOps.gt 47 rfl rfl rfl rfl (op_index rfl te_50 rfl (.own _ _ _) rfl rfl (Pm.cellss_get (hw (by omega) (by omega))) ⟨rfl, rfl⟩) ?_) | (refine DOps.gt 47 rfl rfl rfl rfl (op_index (i := 0) rfl te_50 rfl (.own _ _ _) rfl rfl (by first | rfl | assumption) ⟨rfl, rfl⟩) ?_) | (refine DOps.gt 47 rfl rfl rfl rfl (op_index (i := 1) rfl te_50 rfl (.own _ _ _) rfl rfl (by first | rfl | assumption) ⟨rfl, rfl⟩) ?_) | (refine DOps.gt 47 rfl rfl rfl rfl (op_index (i := (n - 1).toNat) rfl te_50 rfl (.seq _ _) rfl (by first | rfl | omega) (Pm.cellss_get (hw (by omega) (by omega))) ⟨rfl, rfl⟩) ?_)
            first | (refine DOps.gt 48 rfl rfl rfl rfl (op_fieldAddr_m rfl tf_89_2 rfl ⟨rfl, rfl⟩) ?_) | (refine DOps.gt 48 rfl rfl rfl rfl (op_fieldAddr_c rfl tf_89_2 rfl rfl ⟨rfl, rfl⟩) ?_)
            first | (refine DOps.gt 49 rfl rfl rfl rfl (op_load_m1 (i := 0) rfl ta_3 rfl rfl rfl ⟨rfl, rfl⟩) ?_) | (refine DOps.gt 49 rfl rfl rfl rfl (op_load_m1 (i := 1) rfl ta_3 rfl rfl rfl ⟨rfl, rfl⟩) ?_) | (refine DOps.gt 49 rfl rfl rfl rfl (op_load_m1 (i := 2) rfl ta_3 rfl rfl rfl ⟨rfl, rfl⟩) ?_) | (refine DOps.gt 49 rfl rfl rfl rfl (op_load_m1 (i := 3) rfl ta_3 rfl rfl rfl ⟨rfl, rfl⟩) ?_) | (refine DOps.gt 49 rfl rfl rfl rfl (op_load_m1 (i := 4) rfl ta_3 rfl rfl rfl ⟨rfl, rfl⟩) ?_) | (refine DOps.gt 49 rfl rfl rfl rfl (op_load_m1 (i := 5) rfl ta_3 rfl rfl rfl ⟨rfl, rfl⟩) ?_) | (refine DOps.gt 49 rfl rfl rfl rfl (op_load_m1 (i := 6) rfl ta_3 rfl rfl rfl ⟨rfl, rfl⟩) ?_) | (refine DOps.gt 49 rfl rfl rfl rfl (op_load_m1 (i := 7) rfl ta_3 rfl rfl rfl ⟨rfl, rfl⟩) ?_) | (refine DOps.gt 49 rfl rfl rfl rfl (op_load_m1 (i := 8) rfl ta_3 rfl rfl rfl ⟨rfl, rfl⟩) ?_) | (refine DOps.gt 49 rfl rfl rfl rfl (op_load_m1 (i := 9) rfl ta_3 rfl rfl rfl ⟨rfl, rfl⟩) ?_) | (refine DOps.gt 49 rfl rfl rfl rfl (op_load_c1 rfl ta_3 rfl rfl ⟨rfl, rfl⟩) ?_)
            refine DOps.gtc 50 rfl rfl rfl rfl (fun _ q => op_eql rfl rfl rfl q) ?_; intro c50 h50
            refine DOps.st 51 rfl rfl (op_pick rfl rfl rfl ⟨rfl, rfl⟩) ?_
            refine DOps.st 6 rfl rfl (op_assign rfl rfl ⟨rfl, rfl⟩) ?_
            show BoolQ _ _ _ _ _ _
            refine BoolQ.mk rfl ?_ (by repeat' (first | exact SLe.wo _ _ | exact SLe.refl _ | refine SLe.fresh rfl ?_)) (by first | exact MLe.none _ | exact MLe.refl _ | (repeat' (first | exact MLe.nil | exact MLe.refl _ | refine MLe.cons _ ?_ | refine MLe.drop _ ?_)))
            simp_all; done
      intro c6 h6
      refine go_code ?_
      refine c_ret ?_
      exact out_tmp rfl rfl (Le.refl _) (by first | exact MLe.none _ | exact MLe.refl _ | (repeat' (first | exact MLe.nil | exact MLe.refl _ | refine MLe.cons _ ?_ | refine MLe.drop _ ?_))) ⟨⟨_, h6.trans ⟨fun q => ⟨by omega, fun _ => ⟨q.1, q.2.1, fun p hp => by rw [hw q.1 q.2.1] at hp; cases hp; exact q.2.2⟩, by omega, by omega⟩, fun q => ⟨(q.2.1 g26).1, (q.2.1 g26).2.1, (q.2.1 g26).2.2 _ (hw (q.2.1 g26).1 (q.2.1 g26).2.1)⟩⟩, rfl⟩, rfl⟩
  · refine c_cond_t rfl ?_
    refine c_seq ?_
    refine c_bool 6 (0 < ar.length ∧ 0 ≤ n ∧ n ≤ 65535) ?_ _ _ rfl ?_
    · skip
      refine AOps.st 11 rfl rfl rfl (op_fieldAddr_c rfl tf_46_4 rfl rfl ?_)
      refine AOps.st 12 rfl rfl rfl (op_load_c1 rfl ta_42 rfl rfl ?_)
      refine AOps.st 13 rfl rfl rfl (op_len rfl tu_42 rfl (.seq _ _) (fun n13 => ?_))
      refine AOps.st 14 rfl rfl rfl (op_gtr rfl rfl rfl ?_); intro c14 h14
      refine AOps.st 15 rfl rfl rfl (op_move rfl rfl ?_)
      rcases bool_split h14 with ⟨rfl, g14⟩ | ⟨rfl, g14⟩
      · skip
        refine AOps.gf 16 rfl rfl rfl rfl rfl ?_
        refine AOps.gf 17 rfl rfl rfl rfl rfl ?_
        refine AOps.gf 18 rfl rfl rfl rfl rfl ?_
        refine AOps.st 19 rfl rfl rfl (op_pick rfl rfl rfl ?_)
        refine AOps.st 20 rfl rfl rfl (op_move rfl rfl ?_)
        refine AOps.gf 21 rfl rfl rfl rfl rfl ?_
        refine AOps.gf 22 rfl rfl rfl rfl rfl ?_
        refine AOps.gf 23 rfl rfl rfl rfl rfl ?_
        refine AOps.st 24 rfl rfl rfl (op_pick rfl rfl rfl ?_)
        refine AOps.st 6 rfl rfl rfl (op_assign rfl rfl ?_)
        refine AOps.nil ?_
        refine BoolQ.mk rfl ?_ (by repeat' (first | exact SLe.wo _ _ | exact SLe.refl _ | refine SLe.fresh rfl ?_)) (by first | exact MLe.none _ | exact MLe.refl _ | (repeat' (first | exact MLe.nil | exact MLe.refl _ | refine MLe.cons _ ?_ | refine MLe.drop _ ?_)))
        simp_all; done
      · skip
        refine AOps.gt 16 rfl rfl rfl rfl rfl (op_fieldAddr_c rfl tf_46_3 rfl rfl ?_)
        refine AOps.gt 17 rfl rfl rfl rfl rfl (op_load_c1 rfl ta_2 rfl rfl ?_)
        refine AOps.gt 18 rfl rfl rfl rfl rfl (op_geq rfl rfl rfl ?_); intro c18 h18
        refine AOps.st 19 rfl rfl rfl (op_pick rfl rfl rfl ?_)
        refine AOps.st 20 rfl rfl rfl (op_move rfl rfl ?_)
        rcases bool_split h18 with ⟨rfl, g18⟩ | ⟨rfl, g18⟩
        · skip
          refine AOps.gf 21 rfl rfl rfl rfl rfl ?_
          refine AOps.gf 22 rfl rfl rfl rfl rfl ?_
          refine AOps.gf 23 rfl rfl rfl rfl rfl ?_
          refine AOps.st 24 rfl rfl rfl (op_pick rfl rfl rfl ?_)
          refine AOps.st 6 rfl rfl rfl (op_assign rfl rfl ?_)
          refine AOps.nil ?_
          refine BoolQ.mk rfl ?_ (by repeat' (first | exact SLe.wo _ _ | exact SLe.refl _ | refine SLe.fresh rfl ?_)) (by first | exact MLe.none _ | exact MLe.refl _ | (repeat' (first | exact MLe.nil | exact MLe.refl _ | refine MLe.cons _ ?_ | refine MLe.drop _ ?_)))
          first | (simp_all; done) | (simp_all; omega)
        · skip
          refine AOps.gt 21 rfl rfl rfl rfl rfl (op_fieldAddr_c rfl tf_46_3 rfl rfl ?_)
          refine AOps.gt 22 rfl rfl rfl rfl rfl (op_load_c1 rfl ta_2 rfl rfl ?_)
          refine AOps.gt 23 rfl rfl rfl rfl rfl (op_leq rfl rfl rfl ?_); intro c23 h23
          refine AOps.st 24 rfl rfl rfl (op_pick rfl rfl rfl ?_)
          refine AOps.st 6 rfl rfl rfl (op_assign rfl rfl ?_)
          refine AOps.nil ?_
          refine BoolQ.mk rfl ?_ (by repeat' (first | exact SLe.wo _ _ | exact SLe.refl _ | refine SLe.fresh rfl ?_)) (by first | exact MLe.none _ | exact MLe.refl _ | (repeat' (first | exact MLe.nil | exact MLe.refl _ | refine MLe.cons _ ?_ | refine MLe.drop _ ?_)))
          simp_all; done
    intro c6 h6
    refine go_code ?_
    refine c_ret ?_
    exact out_tmp rfl rfl (Le.refl _) (by first | exact MLe.none _ | exact MLe.refl _ | (repeat' (first | exact MLe.nil | exact MLe.refl _ | refine MLe.cons _ ?_ | refine MLe.drop _ ?_))) ⟨⟨_, h6.trans ⟨fun q => ⟨fun _ => q, by omega, by omega, by omega⟩, fun q => q.1 g10⟩, rfl⟩, rfl⟩
set_option maxHeartbeats 4000000 in
set_option maxRecDepth 100000 in
theorem fix_c (c : Cd) (f : Cf) (fr to : Int) (ps : List Pm) (i : Is) (h1 : 1 ≤ f.sl) (h2 : f.sl ≤ 1048576) (hli : i.Lim) : BCall Try.prog 46 [.agg (ckCells c f fr to ps), .agg i.cells] (FixP c f i) := by
  have HA := fun l => Ev_Ato (AtomP f c.gl) 45 [.agg (ckCells c f fr to ps)] [] l (fun x _ => atom_c c f fr to ps x)
  obtain ⟨_, _, _, _, _, ⟨hlf, _⟩, hlc, _⟩ := hli
  obtain ⟨op, a, b, n, ar, fs, ca⟩ := i
  dsimp only at hlf hlc
  have hl1 := nums_len fs
  have hl2 := Ato.cellsss_len ca
  show BCall _ _ _ ((op ≠ 4 → fs = [] ∧ ca = []) ∧ (op = 4 → fs ≠ [] ∧ ca.length = fs.length ∧ a ≤ f.sl - fs.length ∧ ∀ (k : Nat) n l, fs[k]? = some n → ca[k]? = some l → CapP c f n l))
  unfold CapP
  generalize hAP : AtomP f c.gl = AP at *
  obtain ⟨is, fu, tx, gl, ys, no⟩ := c
  obtain ⟨fl, sl, cp⟩ := f
  have hl3 := Cf.cellss_len fu
  simp only [Cf.sl] at h1 h2 ⊢
  simp only [Cd.fu]
  refine ACall.enter Try.func46 rfl (by kernel_rfl) rfl (Nat.le_of_ble_eq_true rfl) ?_
  refine c_start ?_
  refine c_seq ?_
  refine c_region ?_
  refine AOps.st 2 rfl rfl rfl (op_boxc (cs' := [_, _, _, _, _, _, _, _, _, _, _, _]) rfl rfl rfl rfl ?_)
  refine AOps.st 3 rfl rfl rfl (op_boxc (cs' := [_, _, _, _, _, _, _]) rfl rfl rfl rfl ?_)
  refine AOps.st 4 rfl rfl rfl (op_assign rfl rfl ?_)
  refine AOps.nil ?_
  refine go_code ?_
  refine c_seq ?_
  refine c_seq ?_
  refine c_region ?_
  refine AOps.st 7 rfl rfl rfl (op_fieldAddr_c rfl tf_46_0 rfl rfl ?_)
  refine AOps.st 8 rfl rfl rfl (op_load_c1 rfl ta_3 rfl rfl ?_)
  refine AOps.st 9 rfl rfl rfl (op_neq rfl rfl rfl ?_); intro c9 h9
  refine AOps.nil ?_
  refine go_code ?_
  rcases bool_split h9 with ⟨rfl, g9⟩ | ⟨rfl, g9⟩
  · refine c_cond_f rfl ?_
    refine c_skip ?_
    refine go_code ?_
    refine c_seq ?_
    refine c_seq ?_
    refine c_bool 42 (¬ (fs ≠ [] ∧ ca.length = fs.length ∧ a ≤ sl - fs.length)) ?_ _ _ rfl ?_
    · skip
      refine AOps.st 18 rfl rfl rfl (op_fieldAddr_c rfl tf_46_5 rfl rfl ?_)
      refine AOps.st 19 rfl rfl rfl (op_load_c1 rfl ta_43 rfl rfl ?_)
      refine AOps.st 20 rfl rfl rfl (op_len rfl tu_43 rfl (.seq _ _) (fun n20 => ?_))
      refine AOps.st 21 rfl rfl rfl (op_eql rfl rfl rfl ?_); intro c21 h21
      refine AOps.st 22 rfl rfl rfl (op_move rfl rfl ?_)
      rcases bool_split h21 with ⟨rfl, g21⟩ | ⟨rfl, g21⟩
      · skip
        refine AOps.gt 23 rfl rfl rfl rfl rfl (op_fieldAddr_c rfl tf_46_6 rfl rfl ?_)
        refine AOps.gt 24 rfl rfl rfl rfl rfl (op_load_c1 rfl ta_44 rfl rfl ?_)
        refine AOps.gt 25 rfl rfl rfl rfl rfl (op_len rfl tu_44 rfl (.seq _ _) (fun n25 => ?_))
        refine AOps.gt 26 rfl rfl rfl rfl rfl (op_fieldAddr_c rfl tf_46_5 rfl rfl ?_)
        refine AOps.gt 27 rfl rfl rfl rfl rfl (op_load_c1 rfl ta_43 rfl rfl ?_)
        refine AOps.gt 28 rfl rfl rfl rfl rfl (op_len rfl tu_43 rfl (.seq _ _) (fun n28 => ?_))
        refine AOps.gt 29 rfl rfl rfl rfl rfl (op_neq rfl rfl rfl ?_); intro c29 h29
        refine AOps.st 30 rfl rfl rfl (op_pick rfl rfl rfl ?_)
        refine AOps.st 31 rfl rfl rfl (op_move rfl rfl ?_)
        rcases bool_split h29 with ⟨rfl, g29⟩ | ⟨rfl, g29⟩
        · skip
          refine AOps.gt 32 rfl rfl rfl rfl rfl (op_fieldAddr_c rfl tf_46_1 rfl rfl ?_)
          refine AOps.gt 33 rfl rfl rfl rfl rfl (op_load_c1 rfl ta_3 rfl rfl ?_)
          refine AOps.gt 34 rfl rfl rfl rfl rfl (op_fieldAddr_c rfl tf_53_1 rfl rfl ?_)
          refine AOps.gt 35 rfl rfl rfl rfl rfl (op_fieldAddr_c rfl tf_39_1 rfl rfl ?_)
          refine AOps.gt 36 rfl rfl rfl rfl rfl (op_load_c1 rfl ta_3 rfl rfl ?_)
          refine AOps.gt 37 rfl rfl rfl rfl rfl (op_fieldAddr_c rfl tf_46_5 rfl rfl ?_)
          refine AOps.gt 38 rfl rfl rfl rfl rfl (op_load_c1 rfl ta_43 rfl rfl ?_)
          refine AOps.gt 39 rfl rfl rfl rfl rfl (op_len rfl tu_43 rfl (.seq _ _) (fun n39 => ?_))
          refine AOps.gt 40 rfl rfl rfl rfl rfl (op_sub rfl rfl rfl (IntWalk.i64_in _ (by omega)) ?_)
          refine AOps.gt 41 rfl rfl rfl rfl rfl (op_gtr rfl rfl rfl ?_); intro c41 h41
          refine AOps.st 42 rfl rfl rfl (op_pick rfl rfl rfl ?_)
          refine AOps.nil ?_
          refine BoolQ.mk rfl ?_ (by repeat' (first | exact SLe.wo _ _ | exact SLe.refl _ | refine SLe.fresh rfl ?_)) (by first | exact MLe.none _ | exact MLe.refl _ | (repeat' (first | exact MLe.nil | exact MLe.refl _ | refine MLe.cons _ ?_ | refine MLe.drop _ ?_)))
          rw [h41, ne_nil_iff]; omega
        · skip
          refine AOps.gf 32 rfl rfl rfl rfl rfl ?_
          refine AOps.gf 33 rfl rfl rfl rfl rfl ?_
          refine AOps.gf 34 rfl rfl rfl rfl rfl ?_
          refine AOps.gf 35 rfl rfl rfl rfl rfl ?_
          refine AOps.gf 36 rfl rfl rfl rfl rfl ?_
          refine AOps.gf 37 rfl rfl rfl rfl rfl ?_
          refine AOps.gf 38 rfl rfl rfl rfl rfl ?_
          refine AOps.gf 39 rfl rfl rfl rfl rfl ?_
          refine AOps.gf 40 rfl rfl rfl rfl rfl ?_
          refine AOps.gf 41 rfl rfl rfl rfl rfl ?_
          refine AOps.st 42 rfl rfl rfl (op_pick rfl rfl rfl ?_)
          refine AOps.nil ?_
          refine BoolQ.mk rfl ?_ (by repeat' (first | exact SLe.wo _ _ | exact SLe.refl _ | refine SLe.fresh rfl ?_)) (by first | exact MLe.none _ | exact MLe.refl _ | (repeat' (first | exact MLe.nil | exact MLe.refl _ | refine MLe.cons _ ?_ | refine MLe.drop _ ?_)))
          first | (rw [h41, ne_nil_iff]; omega) | (rw [ne_nil_iff]; simp only [true_iff]; omega)
      · skip
        refine AOps.gf 23 rfl rfl rfl rfl rfl ?_
        refine AOps.gf 24 rfl rfl rfl rfl rfl ?_
        refine AOps.gf 25 rfl rfl rfl rfl rfl ?_
        refine AOps.gf 26 rfl rfl rfl rfl rfl ?_
        refine AOps.gf 27 rfl rfl rfl rfl rfl ?_
        refine AOps.gf 28 rfl rfl rfl rfl rfl ?_
        refine AOps.gf 29 rfl rfl rfl rfl rfl ?_
        refine AOps.st 30 rfl rfl rfl (op_pick rfl rfl rfl ?_)
        refine AOps.st 31 rfl rfl rfl (op_move rfl rfl ?_)
        refine AOps.gf 32 rfl rfl rfl rfl rfl ?_
        refine AOps.gf 33 rfl rfl rfl rfl rfl ?_
        refine AOps.gf 34 rfl rfl rfl rfl rfl ?_
        refine AOps.gf 35 rfl rfl rfl rfl rfl ?_
        refine AOps.gf 36 rfl rfl rfl rfl rfl ?_
        refine AOps.gf 37 rfl rfl rfl rfl rfl ?_
        refine AOps.gf 38 rfl rfl rfl rfl rfl ?_
        refine AOps.gf 39 rfl rfl rfl rfl rfl ?_
        refine AOps.gf 40 rfl rfl rfl rfl rfl ?_
        refine AOps.gf 41 rfl rfl rfl rfl rfl ?_
        refine AOps.st 42 rfl rfl rfl (op_pick rfl rfl rfl ?_)
        refine AOps.nil ?_
        refine BoolQ.mk rfl ?_ (by repeat' (first | exact SLe.wo _ _ | exact SLe.refl _ | refine SLe.fresh rfl ?_)) (by first | exact MLe.none _ | exact MLe.refl _ | (repeat' (first | exact MLe.nil | exact MLe.refl _ | refine MLe.cons _ ?_ | refine MLe.drop _ ?_)))
        first | (rw [h41, ne_nil_iff]; omega) | (rw [ne_nil_iff]; simp only [true_iff]; omega)
    intro c42 h42
    refine go_code ?_
    rcases bool_split h42 with ⟨rfl, g42⟩ | ⟨rfl, g42⟩
    · refine c_cond_f rfl ?_
      refine c_skip ?_
      refine go_code ?_
      refine c_seq ?_
      refine c_seq ?_
      obtain ⟨e1, e2, e3⟩ := Classical.not_not.1 g42
      refine c_region ?_
      refine AOps.st 43 rfl rfl rfl (op_fieldAddr_c rfl tf_46_5 rfl rfl ?_)
      refine AOps.st 44 rfl rfl rfl (op_load_c1 rfl ta_43 rfl rfl ?_)
      refine AOps.st 45 rfl rfl rfl (op_len rfl tu_43 rfl (.seq _ _) (fun n45 => ?_))
      refine AOps.st 46 rfl rfl rfl (op_move rfl rfl ?_)
      refine AOps.nil ?_
      refine go_code ?_
      refine c_block ?_
      apply c_loopkm [0, 1, 4, 5, 6, 7, 8, 9, 10, 11, 12, 13, 14, 15, 16, 17, 18, 19, 20, 21, 22, 23, 24, 25, 26, 27, 28, 29, 30, 31, 32, 33, 34, 35, 36, 37, 38, 39, 40, 41, 42, 43, 46, 47, 48, 49, 50, 51, 52, 53, 54, 55, 56, 57, 58, 59, 60, 61, 62, 63, 64, 65, 66, 67, 68, 69, 70, 71, 72, 73, 74, 75, 76, 77, 78, 79, 80, 81, 82, 83, 84, 85, 86, 87, 88] (σ := Nat) (fun zz => match zz with | k => [(46, .val (.int .i64 k))]) (fun zz => match zz with | k => k ≤ fs.length ∧ ∀ j n l, j < k → fs[j]? = some n → ca[j]? = some l → 1 ≤ n ∧ n < fu.length ∧ (∀ g, fu[n.toNat]? = some g → (l.length : Int) = g.cp) ∧ ∀ a ∈ l, AP a) (fun zz => match zz with | k => fs.length - k) (0)
      · repeat' (first | exact Drops.nil | apply Drops.keep rfl | apply Drops.skip rfl)
      · exact ⟨by omega, by omega⟩
      · exact (by repeat' (first | exact SLe.nil _ | refine SLe.cons rfl ?_ ?_ | exact Le.refl _ | exact Le.own _ _ _ | exact Le.nil _))
      rintro k hI
      try dsimp only [List.cons_append, List.nil_append] at hI ⊢
      obtain ⟨hk, hu⟩ := hI
      refine c_seq ?_
      refine c_region ?_
      refine AOps.st 47 rfl rfl rfl (op_lss rfl rfl rfl ?_); intro c47 h47
      refine AOps.nil ?_
      refine go_code ?_
      refine c_seq ?_
      rcases bool_split h47 with ⟨rfl, g47⟩ | ⟨rfl, g47⟩
      · refine c_cond_f rfl ?_
        refine c_exit ?_
        refine x_code ?_
        refine x_lp ?_
        refine x_here ?_
        refine go_code ?_
        refine c_seq ?_
        refine c_region ?_
        refine AOps.st 4 rfl rfl rfl (op_assign rfl rfl ?_)
        refine AOps.nil ?_
        refine go_code ?_
        refine c_ret ?_
        exact out_tmp rfl rfl (Le.refl _) (by first | exact MLe.none _ | exact MLe.refl _ | (repeat' (first | exact MLe.nil | exact MLe.refl _ | refine MLe.cons _ ?_ | refine MLe.drop _ ?_))) ⟨⟨_, iff_t ⟨by omega, fun _ => ⟨e1, e2, e3, fun k' n' l' hn hl => hu k' n' l' (by have := (List.getElem?_eq_some_iff.1 hn).1; omega) hn hl⟩⟩, rfl⟩, rfl⟩
      · refine c_cond_t rfl ?_
        refine c_skip ?_
        refine go_code ?_
        refine c_seq ?_
        refine c_block ?_
        refine c_seq ?_
        obtain ⟨m, hxm⟩ := get_some (l := fs) (i := k) (by first | omega | (simp at *; omega))
        have hcm := nums_get hxm
        have hmm := List.mem_of_getElem? hxm
        refine c_region ?_
        refine AOps.st 48 rfl rfl rfl (op_move rfl rfl ?_)
        refine AOps.st 49 rfl rfl rfl (op_index rfl te_43 rfl (.seq _ _) rfl rfl (by assumption) ?_)
        first | (refine AOps.st 50 rfl rfl rfl (op_load_m1 (i := 0) rfl ta_3 rfl rfl rfl ?_)) | (refine AOps.st 50 rfl rfl rfl (op_load_m1 (i := 1) rfl ta_3 rfl rfl rfl ?_)) | (refine AOps.st 50 rfl rfl rfl (op_load_m1 (i := 2) rfl ta_3 rfl rfl rfl ?_)) | (refine AOps.st 50 rfl rfl rfl (op_load_m1 (i := 3) rfl ta_3 rfl rfl rfl ?_)) | (refine AOps.st 50 rfl rfl rfl (op_load_m1 (i := 4) rfl ta_3 rfl rfl rfl ?_)) | (refine AOps.st 50 rfl rfl rfl (op_load_m1 (i := 5) rfl ta_3 rfl rfl rfl ?_)) | (refine AOps.st 50 rfl rfl rfl (op_load_m1 (i := 6) rfl ta_3 rfl rfl rfl ?_)) | (refine AOps.st 50 rfl rfl rfl (op_load_m1 (i := 7) rfl ta_3 rfl rfl rfl ?_)) | (refine AOps.st 50 rfl rfl rfl (op_load_m1 (i := 8) rfl ta_3 rfl rfl rfl ?_)) | (refine AOps.st 50 rfl rfl rfl (op_load_m1 (i := 9) rfl ta_3 rfl rfl rfl ?_)) | (refine AOps.st 50 rfl rfl rfl (op_load_c1 rfl ta_3 rfl rfl ?_))
        refine AOps.st 5 rfl rfl rfl (op_assign rfl rfl ?_)
        refine AOps.st 6 rfl rfl rfl (op_assign rfl rfl ?_)
        refine AOps.nil ?_
        refine go_code ?_
        refine c_seq ?_
        obtain ⟨l, hxl⟩ := get_some (l := ca) (i := k) (by omega)
        have hcl := Ato.cellsss_get hxl
        have hll := Ato.cellss_len l
        obtain ⟨⟨wl, wsl, wcp⟩, hw⟩ : ∃ p : Cf, 1 ≤ m → m < fu.length → fu[m.toNat]? = some p := by
          by_cases q : 1 ≤ m ∧ m < fu.length
          · exact ⟨fu[m.toNat]'(by omega), fun _ _ => List.getElem?_eq_getElem (by omega)⟩
          · exact ⟨⟨0, 0, 0⟩, fun h1 h2 => absurd ⟨h1, h2⟩ q⟩
        refine c_boold 87 (¬ (1 ≤ m ∧ m < fu.length ∧ (l.length : Int) = wcp ∧ ∀ a ∈ l, AP a)) tmix rfl ?_ _ _ rfl ?_
        · skip
          refine DOps.st 51 rfl rfl (op_move rfl rfl ⟨rfl, rfl⟩) ?_
          refine DOps.cm 52 rfl rfl (fun _ q => op_lss rfl rfl rfl q) ?_; intro c52 h52
          refine DOps.st 53 rfl rfl (op_move rfl rfl ⟨rfl, rfl⟩) ?_
          rcases bool_split h52 with ⟨rfl, g52⟩ | ⟨rfl, g52⟩
          · skip
            refine DOps.gt 54 rfl rfl rfl rfl (op_move rfl rfl ⟨rfl, rfl⟩) ?_
            refine DOps.gt 55 rfl rfl rfl rfl (op_fieldAddr_c rfl tf_53_0 rfl rfl ⟨rfl, rfl⟩) ?_
            refine DOps.gt 56 rfl rfl rfl rfl (op_fieldAddr_c rfl tf_26_1 rfl rfl ⟨rfl, rfl⟩) ?_
            refine DOps.gt 57 rfl rfl rfl rfl (op_load_c1 rfl ta_23 rfl rfl ⟨rfl, rfl⟩) ?_
            refine DOps.gt 58 rfl rfl rfl rfl (op_len rfl tu_23 rfl (.seq _ _) (fun _ => ⟨rfl, rfl⟩)) ?_
            refine DOps.gtc 59 rfl rfl rfl rfl (fun _ q => op_geq rfl rfl rfl q) ?_; intro c59 h59
            refine DOps.st 60 rfl rfl (op_pick rfl rfl rfl ⟨rfl, rfl⟩) ?_
            refine DOps.st 61 rfl rfl (op_move rfl rfl ⟨rfl, rfl⟩) ?_
            rcases bool_split h59 with ⟨rfl, g59⟩ | ⟨rfl, g59⟩
            · skip
              refine DOps.gt 62 rfl rfl rfl rfl (op_fieldAddr_c rfl tf_46_6 rfl rfl ⟨rfl, rfl⟩) ?_
              refine DOps.gt 63 rfl rfl rfl rfl (op_load_c1 rfl ta_44 rfl rfl ⟨rfl, rfl⟩) ?_
              refine DOps.gt 64 rfl rfl rfl rfl (op_move rfl rfl ⟨rfl, rfl⟩) ?_
              refine DOps.gt 65 rfl rfl rfl rfl (op_index rfl te_44 rfl (.seq _ _) rfl rfl ((by first | exact hcl | exact Cf.cellss_get (hw (by omega) (by omega)))) ⟨rfl, rfl⟩) ?_
              first | (refine DOps.gt 66 rfl rfl rfl rfl (op_load_m1 (i := 0) rfl ta_42 rfl rfl rfl ⟨rfl, rfl⟩) ?_) | (refine DOps.gt 66 rfl rfl rfl rfl (op_load_m1 (i := 1) rfl ta_42 rfl rfl rfl ⟨rfl, rfl⟩) ?_) | (refine DOps.gt 66 rfl rfl rfl rfl (op_load_m1 (i := 2) rfl ta_42 rfl rfl rfl ⟨rfl, rfl⟩) ?_) | (refine DOps.gt 66 rfl rfl rfl rfl (op_load_m1 (i := 3) rfl ta_42 rfl rfl rfl ⟨rfl, rfl⟩) ?_) | (refine DOps.gt 66 rfl rfl rfl rfl (op_load_m1 (i := 4) rfl ta_42 rfl rfl rfl ⟨rfl, rfl⟩) ?_) | (refine DOps.gt 66 rfl rfl rfl rfl (op_load_m1 (i := 5) rfl ta_42 rfl rfl rfl ⟨rfl, rfl⟩) ?_) | (refine DOps.gt 66 rfl rfl rfl rfl (op_load_m1 (i := 6) rfl ta_42 rfl rfl rfl ⟨rfl, rfl⟩) ?_) | (refine DOps.gt 66 rfl rfl rfl rfl (op_load_m1 (i := 7) rfl ta_42 rfl rfl rfl ⟨rfl, rfl⟩) ?_) | (refine DOps.gt 66 rfl rfl rfl rfl (op_load_m1 (i := 8) rfl ta_42 rfl rfl rfl ⟨rfl, rfl⟩) ?_) | (refine DOps.gt 66 rfl rfl rfl rfl (op_load_m1 (i := 9) rfl ta_42 rfl rfl rfl ⟨rfl, rfl⟩) ?_) | (refine DOps.gt 66 rfl rfl rfl rfl (op_load_c1 rfl ta_42 rfl rfl ⟨rfl, rfl⟩) ?_)
              refine DOps.gt 67 rfl rfl rfl rfl (op_len rfl tu_42 rfl (.seq _ _) (fun _ => ⟨rfl, rfl⟩)) ?_
              refine DOps.gt 68 rfl rfl rfl rfl (op_fieldAddr_c rfl tf_53_0 rfl rfl ⟨rfl, rfl⟩) ?_
              refine DOps.gt 69 rfl rfl rfl rfl (op_fieldAddr_c rfl tf_26_1 rfl rfl ⟨rfl, rfl⟩) ?_
              refine DOps.gt 70 rfl rfl rfl rfl (op_load_c1 rfl ta_23 rfl rfl ⟨rfl, rfl⟩) ?_
              refine DOps.gt 71 rfl rfl rfl rfl (op_move rfl rfl ⟨rfl, rfl⟩) ?_
              first | (refine DOps.gt 72 rfl rfl rfl rfl (op_index rfl te_23 rfl (.seq _ _) rfl rfl ((by first | exact hcl | exact Cf.cellss_get (hw (by omega) (by omega)))) ⟨rfl, rfl⟩) ?_) | (refine DOps.gt 72 rfl rfl rfl rfl (op_index (i := 0) rfl te_23 rfl (.seq _ _) rfl rfl (by first | rfl | assumption) ⟨rfl, rfl⟩) ?_) | (refine DOps.gt 72 rfl rfl rfl rfl (op_index (i := 1) rfl te_23 rfl (.seq _ _) rfl rfl (by first | rfl | assumption) ⟨rfl, rfl⟩) ?_) | (refine DOps.gt 72 rfl rfl rfl rfl (op_index rfl te_23 rfl (.own _ _ _) rfl rfl ((by first | exact hcl | exact Cf.cellss_get (hw (by omega) (by omega)))) ⟨rfl, rfl⟩) ?_) | (refine DOps.gt 72 rfl rfl rfl rfl (op_index (i := 0) rfl te_23 rfl (.own _ _ _) rfl rfl (by first | rfl | assumption) ⟨rfl, rfl⟩) ?_) | (refine DOps.gt 72 rfl rfl rfl rfl (op_index (i := 1) rfl te_23 rfl (.own _ _ _) rfl rfl (by first | rfl | assumption) ⟨rfl, rfl⟩) ?_) | (refine DOps.gt 72 rfl rfl rfl rfl (op_index (i := m.toNat) rfl te_23 rfl (.seq _ _) rfl (by first | rfl | omega) ((by first | exact hcl | exact Cf.cellss_get (hw (by omega) (by omega)))) ⟨rfl, rfl⟩) ?_)
              first | (refine DOps.gt 73 rfl rfl rfl rfl (op_fieldAddr_m rfl tf_39_2 rfl ⟨rfl, rfl⟩) ?_) | (refine DOps.gt 73 rfl rfl rfl rfl (op_fieldAddr_c rfl tf_39_2 rfl rfl ⟨rfl, rfl⟩) ?_)
              first | (refine DOps.gt 74 rfl rfl rfl rfl (op_load_m1 (i := 0) rfl ta_3 rfl rfl rfl ⟨rfl, rfl⟩) ?_) | (refine DOps.gt 74 rfl rfl rfl rfl (op_load_m1 (i := 1) rfl ta_3 rfl rfl rfl ⟨rfl, rfl⟩) ?_) | (refine DOps.gt 74 rfl rfl rfl rfl (op_load_m1 (i := 2) rfl ta_3 rfl rfl rfl ⟨rfl, rfl⟩) ?_) | (refine DOps.gt 74 rfl rfl rfl rfl (op_load_m1 (i := 3) rfl ta_3 rfl rfl rfl ⟨rfl, rfl⟩) ?_) | (refine DOps.gt 74 rfl rfl rfl rfl (op_load_m1 (i := 4) rfl ta_3 rfl rfl rfl ⟨rfl, rfl⟩) ?_) | (refine DOps.gt 74 rfl rfl rfl rfl (op_load_m1 (i := 5) rfl ta_3 rfl rfl rfl ⟨rfl, rfl⟩) ?_) | (refine DOps.gt 74 rfl rfl rfl rfl (op_load_m1 (i := 6) rfl ta_3 rfl rfl rfl ⟨rfl, rfl⟩) ?_) | (refine DOps.gt 74 rfl rfl rfl rfl (op_load_m1 (i := 7) rfl ta_3 rfl rfl rfl ⟨rfl, rfl⟩) ?_) | (refine DOps.gt 74 rfl rfl rfl rfl (op_load_m1 (i := 8) rfl ta_3 rfl rfl rfl ⟨rfl, rfl⟩) ?_) | (refine DOps.gt 74 rfl rfl rfl rfl (op_load_m1 (i := 9) rfl ta_3 rfl rfl rfl ⟨rfl, rfl⟩) ?_) | (refine DOps.gt 74 rfl rfl rfl rfl (op_load_c1 rfl ta_3 rfl rfl ⟨rfl, rfl⟩) ?_)
              refine DOps.gtc 75 rfl rfl rfl rfl (fun _ q => op_neq rfl rfl rfl q) ?_; intro c75 h75
              refine DOps.st 76 rfl rfl (op_pick rfl rfl rfl ⟨rfl, rfl⟩) ?_
              refine DOps.st 77 rfl rfl (op_move rfl rfl ⟨rfl, rfl⟩) ?_
              rcases bool_split h75 with ⟨rfl, g75⟩ | ⟨rfl, g75⟩
              · skip
                refine DOps.gt 78 rfl rfl rfl rfl (op_fieldAddr_c rfl tf_46_6 rfl rfl ⟨rfl, rfl⟩) ?_
                refine DOps.gt 79 rfl rfl rfl rfl (op_load_c1 rfl ta_44 rfl rfl ⟨rfl, rfl⟩) ?_
                refine DOps.gt 80 rfl rfl rfl rfl (op_move rfl rfl ⟨rfl, rfl⟩) ?_
                refine DOps.gt 81 rfl rfl rfl rfl (op_index rfl te_44 rfl (.seq _ _) rfl rfl ((by first | exact hcl | exact Cf.cellss_get (hw (by omega) (by omega)))) ⟨rfl, rfl⟩) ?_
                first | (refine DOps.gt 82 rfl rfl rfl rfl (op_load_m1 (i := 0) rfl ta_42 rfl rfl rfl ⟨rfl, rfl⟩) ?_) | (refine DOps.gt 82 rfl rfl rfl rfl (op_load_m1 (i := 1) rfl ta_42 rfl rfl rfl ⟨rfl, rfl⟩) ?_) | (refine DOps.gt 82 rfl rfl rfl rfl (op_load_m1 (i := 2) rfl ta_42 rfl rfl rfl ⟨rfl, rfl⟩) ?_) | (refine DOps.gt 82 rfl rfl rfl rfl (op_load_m1 (i := 3) rfl ta_42 rfl rfl rfl ⟨rfl, rfl⟩) ?_) | (refine DOps.gt 82 rfl rfl rfl rfl (op_load_m1 (i := 4) rfl ta_42 rfl rfl rfl ⟨rfl, rfl⟩) ?_) | (refine DOps.gt 82 rfl rfl rfl rfl (op_load_m1 (i := 5) rfl ta_42 rfl rfl rfl ⟨rfl, rfl⟩) ?_) | (refine DOps.gt 82 rfl rfl rfl rfl (op_load_m1 (i := 6) rfl ta_42 rfl rfl rfl ⟨rfl, rfl⟩) ?_) | (refine DOps.gt 82 rfl rfl rfl rfl (op_load_m1 (i := 7) rfl ta_42 rfl rfl rfl ⟨rfl, rfl⟩) ?_) | (refine DOps.gt 82 rfl rfl rfl rfl (op_load_m1 (i := 8) rfl ta_42 rfl rfl rfl ⟨rfl, rfl⟩) ?_) | (refine DOps.gt 82 rfl rfl rfl rfl (op_load_m1 (i := 9) rfl ta_42 rfl rfl rfl ⟨rfl, rfl⟩) ?_) | (refine DOps.gt 82 rfl rfl rfl rfl (op_load_c1 rfl ta_42 rfl rfl ⟨rfl, rfl⟩) ?_)
                refine DOps.gt 83 rfl rfl rfl rfl (op_load_c (cs' := [_, _, _, _, _, _, _, _, _, _, _, _]) rfl ta_53 rfl rfl rfl ⟨rfl, rfl⟩) ?_
                refine DOps.gt 84 rfl rfl rfl rfl (op_makeFunc (fs := [.tmp 83]) (cs := []) rfl rfl rfl ⟨rfl, rfl⟩) ?_
                refine DOps.gtc 85 rfl rfl rfl rfl (fun _ q => op_callb (xs := [.tmp 82, .tmp 84]) rfl rfl (HA l) (by first | exact Les.refl _ | (repeat' (first | exact Les.refl _ | refine Les.cons ?_ ?_ | exact Le.refl _ | exact Le.own _ _ _ | exact Le.nil _ | refine Le.agg ?_))) q) ?_; intro c85 h85
                refine DOps.gtc 86 rfl rfl rfl rfl (fun _ q => op_notc rfl rfl q) ?_; intro c86 h86
                try replace h86 := nott h86 h85
                refine DOps.st 87 rfl rfl (op_pick rfl rfl rfl ⟨rfl, rfl⟩) ?_
                show BoolQ _ _ _ _ _ _
                refine BoolQ.mk rfl ?_ (by repeat' (first | exact SLe.wo _ _ | exact SLe.refl _ | refine SLe.fresh rfl ?_)) (by first | exact MLe.none _ | exact MLe.refl _ | (repeat' (first | exact MLe.nil | exact MLe.refl _ | refine MLe.cons _ ?_ | refine MLe.drop _ ?_)))
                first | (simp only [true_iff]; omega) | (rw [h86]; simp only [not_and]; constructor <;> intro q; (intro _ _ _; exact q); exact q (by omega) (by omega) (by omega))
              · skip
                refine DOps.gf 78 rfl rfl rfl rfl ?_
                refine DOps.gf 79 rfl rfl rfl rfl ?_
                refine DOps.gf 80 rfl rfl rfl rfl ?_
                refine DOps.gf 81 rfl rfl rfl rfl ?_
                refine DOps.gf 82 rfl rfl rfl rfl ?_
                refine DOps.gf 83 rfl rfl rfl rfl ?_
                refine DOps.gf 84 rfl rfl rfl rfl ?_
                refine DOps.gf 85 rfl rfl rfl rfl ?_
                refine DOps.gf 86 rfl rfl rfl rfl ?_
                refine DOps.st 87 rfl rfl (op_pick rfl rfl rfl ⟨rfl, rfl⟩) ?_
                show BoolQ _ _ _ _ _ _
                refine BoolQ.mk rfl ?_ (by repeat' (first | exact SLe.wo _ _ | exact SLe.refl _ | refine SLe.fresh rfl ?_)) (by first | exact MLe.none _ | exact MLe.refl _ | (repeat' (first | exact MLe.nil | exact MLe.refl _ | refine MLe.cons _ ?_ | refine MLe.drop _ ?_)))
                simp only [true_iff]; omega
            · skip
              refine DOps.gf 62 rfl rfl rfl rfl ?_
              refine DOps.gf 63 rfl rfl rfl rfl ?_
              refine DOps.gf 64 rfl rfl rfl rfl ?_
              refine DOps.gf 65 rfl rfl rfl rfl ?_
              refine DOps.gf 66 rfl rfl rfl rfl ?_
              refine DOps.gf 67 rfl rfl rfl rfl ?_
              refine DOps.gf 68 rfl rfl rfl rfl ?_
              refine DOps.gf 69 rfl rfl rfl rfl ?_
              refine DOps.gf 70 rfl rfl rfl rfl ?_
              refine DOps.gf 71 rfl rfl rfl rfl ?_
              refine DOps.gf 72 rfl rfl rfl rfl ?_
              refine DOps.gf 73 rfl rfl rfl rfl ?_
              refine DOps.gf 74 rfl rfl rfl rfl ?_
              refine DOps.gf 75 rfl rfl rfl rfl ?_
              refine DOps.st 76 rfl rfl (op_pick rfl rfl rfl ⟨rfl, rfl⟩) ?_
              refine DOps.st 77 rfl rfl (op_move rfl rfl ⟨rfl, rfl⟩) ?_
              refine DOps.gf 78 rfl rfl rfl rfl ?_
              refine DOps.gf 79 rfl rfl rfl rfl ?_
              refine DOps.gf 80 rfl rfl rfl rfl ?_
              refine DOps.gf 81 rfl rfl rfl rfl ?_
              refine DOps.gf 82 rfl rfl rfl rfl ?_
              refine DOps.gf 83 rfl rfl rfl rfl ?_
              refine DOps.gf 84 rfl rfl rfl rfl ?_
              refine DOps.gf 85 rfl rfl rfl rfl ?_
              refine DOps.gf 86 rfl rfl rfl rfl ?_
              refine DOps.st 87 rfl rfl (op_pick rfl rfl rfl ⟨rfl, rfl⟩) ?_
              show BoolQ _ _ _ _ _ _
              refine BoolQ.mk rfl ?_ (by repeat' (first | exact SLe.wo _ _ | exact SLe.refl _ | refine SLe.fresh rfl ?_)) (by first | exact MLe.none _ | exact MLe.refl _ | (repeat' (first | exact MLe.nil | exact MLe.refl _ | refine MLe.cons _ ?_ | refine MLe.drop _ ?_)))
              simp only [true_iff]; omega
          · skip
            refine DOps.gf 54 rfl rfl rfl rfl ?_
            refine DOps.gf 55 rfl rfl rfl rfl ?_
            refine DOps.gf 56 rfl rfl rfl rfl ?_
            refine DOps.gf 57 rfl rfl rfl rfl ?_
            refine DOps.gf 58 rfl rfl rfl rfl ?_
            refine DOps.gf 59 rfl rfl rfl rfl ?_
            refine DOps.st 60 rfl rfl (op_pick rfl rfl rfl ⟨rfl, rfl⟩) ?_
            refine DOps.st 61 rfl rfl (op_move rfl rfl ⟨rfl, rfl⟩) ?_
            refine DOps.gf 62 rfl rfl rfl rfl ?_
            refine DOps.gf 63 rfl rfl rfl rfl ?_
            refine DOps.gf 64 rfl rfl rfl rfl ?_
            refine DOps.gf 65 rfl rfl rfl rfl ?_
            refine DOps.gf 66 rfl rfl rfl rfl ?_
            refine DOps.gf 67 rfl rfl rfl rfl ?_
            refine DOps.gf 68 rfl rfl rfl rfl ?_
            refine DOps.gf 69 rfl rfl rfl rfl ?_
            refine DOps.gf 70 rfl rfl rfl rfl ?_
            refine DOps.gf 71 rfl rfl rfl rfl ?_
            refine DOps.gf 72 rfl rfl rfl rfl ?_
            refine DOps.gf 73 rfl rfl rfl rfl ?_
            refine DOps.gf 74 rfl rfl rfl rfl ?_
            refine DOps.gf 75 rfl rfl rfl rfl ?_
            refine DOps.st 76 rfl rfl (op_pick rfl rfl rfl ⟨rfl, rfl⟩) ?_
            refine DOps.st 77 rfl rfl (op_move rfl rfl ⟨rfl, rfl⟩) ?_
            refine DOps.gf 78 rfl rfl rfl rfl ?_
            refine DOps.gf 79 rfl rfl rfl rfl ?_
            refine DOps.gf 80 rfl rfl rfl rfl ?_
            refine DOps.gf 81 rfl rfl rfl rfl ?_
            refine DOps.gf 82 rfl rfl rfl rfl ?_
            refine DOps.gf 83 rfl rfl rfl rfl ?_
            refine DOps.gf 84 rfl rfl rfl rfl ?_
            refine DOps.gf 85 rfl rfl rfl rfl ?_
            refine DOps.gf 86 rfl rfl rfl rfl ?_
            refine DOps.st 87 rfl rfl (op_pick rfl rfl rfl ⟨rfl, rfl⟩) ?_
            show BoolQ _ _ _ _ _ _
            refine BoolQ.mk rfl ?_ (by repeat' (first | exact SLe.wo _ _ | exact SLe.refl _ | refine SLe.fresh rfl ?_)) (by first | exact MLe.none _ | exact MLe.refl _ | (repeat' (first | exact MLe.nil | exact MLe.refl _ | refine MLe.cons _ ?_ | refine MLe.drop _ ?_)))
            simp only [true_iff]; omega
        intro c87 h87
        refine go_code ?_
        rcases bool_split h87 with ⟨rfl, g87⟩ | ⟨rfl, g87⟩
        · refine c_cond_f rfl ?_
          refine c_skip ?_
          refine go_blk ?_
          refine go_code ?_
          refine c_region ?_
          refine AOps.st 88 rfl rfl rfl (op_add rfl rfl rfl (IntWalk.i64_in _ (by omega)) ?_)
          refine AOps.st 46 rfl rfl rfl (op_move rfl rfl ?_)
          refine AOps.nil ?_
          refine go_lp ?_
          refine ⟨k + 1, ⟨by omega, fun j n' l' hj hn hl => ?_⟩, by simp; omega, (by repeat' (first | exact SLe.nil _ | refine SLe.cons rfl ?_ ?_ | exact Le.refl _ | exact Le.own _ _ _ | exact Le.nil _)), (by first | exact MLe.none _ | exact MLe.refl _ | (repeat' (first | exact MLe.nil | exact MLe.refl _ | refine MLe.cons _ ?_ | refine MLe.drop _ ?_)))⟩
          rcases Nat.lt_or_ge j k with q | q
          · exact hu j n' l' q hn hl
          · have : j = k := by omega
            subst this
            rw [hxm] at hn; cases hn
            rw [hxl] at hl; cases hl
            obtain ⟨q1, q2, q3, q4⟩ := Classical.not_not.1 g87
            exact ⟨q1, q2, fun g hg => by rw [hw q1 q2] at hg; cases hg; exact q3, q4⟩
        · refine c_cond_t rfl ?_
          refine c_seq ?_
          refine c_region ?_
          refine AOps.st 4 rfl rfl rfl (op_assign rfl rfl ?_)
          refine AOps.nil ?_
          refine go_code ?_
          refine c_ret ?_
          exact out_tmp rfl rfl (Le.refl _) (by first | exact MLe.none _ | exact MLe.refl _ | (repeat' (first | exact MLe.nil | exact MLe.refl _ | refine MLe.cons _ ?_ | refine MLe.drop _ ?_))) ⟨⟨_, iff_f (fun q => g87 (by have q' := (q.2 (by omega)).2.2.2 k m l hxm hxl; exact ⟨q'.1, q'.2.1, q'.2.2.1 _ (hw q'.1 q'.2.1), q'.2.2.2⟩)), rfl⟩, rfl⟩
    · refine c_cond_t rfl ?_
      refine c_seq ?_
      refine c_region ?_
      refine AOps.st 4 rfl rfl rfl (op_assign rfl rfl ?_)
      refine AOps.nil ?_
      refine go_code ?_
      refine c_ret ?_
      exact out_tmp rfl rfl (Le.refl _) (by first | exact MLe.none _ | exact MLe.refl _ | (repeat' (first | exact MLe.nil | exact MLe.refl _ | refine MLe.cons _ ?_ | refine MLe.drop _ ?_))) ⟨⟨_, iff_f (fun q => g42 ⟨(q.2 (by omega)).1, (q.2 (by omega)).2.1, (q.2 (by omega)).2.2.1⟩), rfl⟩, rfl⟩
  · refine c_cond_t rfl ?_
    refine c_seq ?_
    refine c_region ?_
    refine AOps.st 10 rfl rfl rfl (op_fieldAddr_c rfl tf_46_5 rfl rfl ?_)
    refine AOps.st 11 rfl rfl rfl (op_load_c1 rfl ta_43 rfl rfl ?_)
    refine AOps.st 12 rfl rfl rfl (op_len rfl tu_43 rfl (.seq _ _) (fun n12 => ?_))
    refine AOps.st 13 rfl rfl rfl (op_fieldAddr_c rfl tf_46_6 rfl rfl ?_)
    refine AOps.st 14 rfl rfl rfl (op_load_c1 rfl ta_44 rfl rfl ?_)
    refine AOps.st 15 rfl rfl rfl (op_len rfl tu_44 rfl (.seq _ _) (fun n15 => ?_))
    refine AOps.st 16 rfl rfl rfl (op_add rfl rfl rfl (IntWalk.i64_in _ (by omega)) ?_)
    refine AOps.st 17 rfl rfl rfl (op_eql rfl rfl rfl ?_); intro c17 h17
    refine AOps.st 4 rfl rfl rfl (op_assign rfl rfl ?_)
    refine AOps.nil ?_
    refine go_code ?_
    refine c_ret ?_
    exact out_tmp rfl rfl (Le.refl _) (by first | exact MLe.none _ | exact MLe.refl _ | (repeat' (first | exact MLe.nil | exact MLe.refl _ | refine MLe.cons _ ?_ | refine MLe.drop _ ?_))) ⟨⟨_, h17.trans ⟨fun q => ⟨fun _ => ⟨List.eq_nil_of_length_eq_zero (by omega), List.eq_nil_of_length_eq_zero (by omega)⟩, by omega⟩, fun q => by obtain ⟨e1, e2⟩ := q.1 g9; subst e1 e2; rfl⟩, rfl⟩, rfl⟩
set_option maxHeartbeats 4000000 in
set_option maxRecDepth 100000 in
theorem ins_c (c : Cd) (f : Cf) (fr to : Int) (ps : List Pm) (i : Is) (h1 : 1 ≤ f.sl) (h2 : f.sl ≤ 1048576) (hli : i.Lim) (hps : ps.length ≤ 1000) : BCall Try.prog 18 ([.agg (ckCells c f fr to ps)] ++ [.agg i.cells] ++ []) (InsP ps c f fr to i) := by
  have HA := Ev_Ato (AtomP f c.gl) 45 [.agg (ckCells c f fr to ps)] [] i.ar (fun x _ => atom_c c f fr to ps x)
  have HO := of_c i.op
  have HP := places_c c f fr to ps i (opA i.op) (opB i.op) (opN i.op) (opS i.op) (opG i.op)
  have HN := number_c c f fr to ps i (opA i.op) (opB i.op) (opN i.op) (opS i.op) (opG i.op) hps
  have HF := fix_c c f fr to ps i h1 h2 hli
  unfold InsP
  generalize PlaP c f fr to i (opA i.op) (opB i.op) = pP at *
  generalize NumP ps i (opN i.op) (opG i.op) = pN at *
  generalize FixP c f i = pF at *
  generalize AtomP f c.gl = AP at *
  obtain ⟨is, fu, tx, gl, ys, no⟩ := c
  obtain ⟨fl, sl, cp⟩ := f
  obtain ⟨op, a, b, n, ar, fs, ca⟩ := i
  simp only [Is.op, Is.ar] at *
  generalize opA op = oa at *
  generalize opB op = ob at *
  generalize opN op = on at *
  generalize opS op = os at *
  generalize opG op = og at *
  generalize opOk op = ok at *
  generalize hAA : (∀ a ∈ ar, AP a) = pA at *
  refine ACall.enter Try.func18 rfl (by kernel_rfl) rfl (Nat.le_of_ble_eq_true rfl) ?_
  refine c_start ?_
  refine c_seq ?_
  refine c_region ?_
  refine AOps.st 2 rfl rfl rfl (op_boxc (cs' := [_, _, _, _, _, _, _, _, _, _, _, _]) rfl rfl rfl rfl ?_)
  refine AOps.st 3 rfl rfl rfl (op_boxc (cs' := [_, _, _, _, _, _, _]) rfl rfl rfl rfl ?_)
  refine AOps.st 4 rfl rfl rfl (op_assign rfl rfl ?_)
  refine AOps.nil ?_
  refine go_code ?_
  refine c_seq ?_
  refine c_region ?_
  refine AOps.st 8 rfl rfl rfl (op_fieldAddr_c rfl tf_46_0 rfl rfl ?_)
  refine AOps.st 9 rfl rfl rfl (op_load_c1 rfl ta_3 rfl rfl ?_)
  refine AOps.st 10 rfl rfl rfl (op_callp (xs := [.tmp 9]) rfl rfl (HO) (by first | exact Les.refl _ | (repeat' (first | exact Les.refl _ | refine Les.cons ?_ ?_ | exact Le.refl _ | exact Le.own _ _ _ | exact Le.nil _ | refine Le.agg ?_))) ?_)
  refine AOps.st 7 rfl rfl rfl (op_move rfl rfl ?_)
  refine AOps.st 11 rfl rfl rfl (op_extract rfl rfl rfl ?_)
  refine AOps.st 12 rfl rfl rfl (op_extract rfl rfl rfl ?_)
  refine AOps.st 5 rfl rfl rfl (op_alloce (cs' := [_, _, _, _, _]) rfl tz_91 rfl rfl ?_); intro b5
  refine AOps.st0 rfl rfl (op_store (cs' := [_, _, _, _, _]) (i := 0) rfl ts_91 rfl rfl rfl rfl rfl (Nat.le_of_ble_eq_true rfl) rfl ?_)
  refine AOps.st 6 rfl rfl rfl (op_assign rfl rfl ?_)
  refine AOps.nil ?_
  refine go_code ?_
  refine c_seq ?_
  refine c_bool 4 (ok = true ∧ pP ∧ pN ∧ pA ∧ pF) ?_ _ _ rfl ?_
  · skip
    refine AOps.st 13 rfl rfl rfl (op_move rfl rfl ?_)
    have h13 : (ok = true ↔ ok = true) := Iff.rfl
    refine AOps.st 14 rfl rfl rfl (op_move rfl rfl ?_)
    rcases bool_split h13 with ⟨rfl, g13⟩ | ⟨rfl, g13⟩
    · skip
      refine AOps.gf 15 rfl rfl rfl rfl rfl ?_
      refine AOps.gf 16 rfl rfl rfl rfl rfl ?_
      refine AOps.gf 17 rfl rfl rfl rfl rfl ?_
      refine AOps.gf 18 rfl rfl rfl rfl rfl ?_
      refine AOps.st 19 rfl rfl rfl (op_pick rfl rfl rfl ?_)
      refine AOps.st 20 rfl rfl rfl (op_move rfl rfl ?_)
      refine AOps.gf 21 rfl rfl rfl rfl rfl ?_
      refine AOps.gf 22 rfl rfl rfl rfl rfl ?_
      refine AOps.gf 23 rfl rfl rfl rfl rfl ?_
      refine AOps.gf 24 rfl rfl rfl rfl rfl ?_
      refine AOps.st 25 rfl rfl rfl (op_pick rfl rfl rfl ?_)
      refine AOps.st 26 rfl rfl rfl (op_move rfl rfl ?_)
      refine AOps.gf 27 rfl rfl rfl rfl rfl ?_
      refine AOps.gf 28 rfl rfl rfl rfl rfl ?_
      refine AOps.gf 29 rfl rfl rfl rfl rfl ?_
      refine AOps.gf 30 rfl rfl rfl rfl rfl ?_
      refine AOps.gf 31 rfl rfl rfl rfl rfl ?_
      refine AOps.st 32 rfl rfl rfl (op_pick rfl rfl rfl ?_)
      refine AOps.st 33 rfl rfl rfl (op_move rfl rfl ?_)
      refine AOps.gf 34 rfl rfl rfl rfl rfl ?_
      refine AOps.gf 35 rfl rfl rfl rfl rfl ?_
      refine AOps.gf 36 rfl rfl rfl rfl rfl ?_
      refine AOps.st 37 rfl rfl rfl (op_pick rfl rfl rfl ?_)
      refine AOps.st 4 rfl rfl rfl (op_assign rfl rfl ?_)
      refine AOps.nil ?_
      refine BoolQ.mk rfl ?_ (by repeat' (first | exact SLe.wo _ _ | exact SLe.refl _ | refine SLe.fresh rfl ?_)) (by first | exact MLe.none _ | exact MLe.refl _ | (repeat' (first | exact MLe.nil | exact MLe.refl _ | refine MLe.cons _ ?_ | refine MLe.drop _ ?_)))
      simp_all; done
    · skip
      refine AOps.gt 15 rfl rfl rfl rfl rfl (op_load_c (cs' := [_, _, _, _, _, _, _, _, _, _, _, _]) rfl ta_53 rfl rfl rfl ?_)
      refine AOps.gt 16 rfl rfl rfl rfl rfl (op_load_c (cs' := [_, _, _, _, _, _, _]) rfl ta_46 rfl rfl rfl ?_)
      refine AOps.gt 17 rfl rfl rfl rfl rfl (op_load_m (cs' := [_, _, _, _, _]) (i := 0) rfl ta_91 rfl rfl rfl rfl ?_)
      refine AOps.gt 18 rfl rfl rfl rfl rfl (op_callb (xs := [.tmp 15, .tmp 16, .tmp 17]) rfl rfl (HP) (by first | exact Les.refl _ | (repeat' (first | exact Les.refl _ | refine Les.cons ?_ ?_ | exact Le.refl _ | exact Le.own _ _ _ | exact Le.nil _ | refine Le.agg ?_))) ?_); intro c18 h18
      refine AOps.st 19 rfl rfl rfl (op_pick rfl rfl rfl ?_)
      refine AOps.st 20 rfl rfl rfl (op_move rfl rfl ?_)
      rcases bool_split h18 with ⟨rfl, g18⟩ | ⟨rfl, g18⟩
      · skip
        refine AOps.gf 21 rfl rfl rfl rfl rfl ?_
        refine AOps.gf 22 rfl rfl rfl rfl rfl ?_
        refine AOps.gf 23 rfl rfl rfl rfl rfl ?_
        refine AOps.gf 24 rfl rfl rfl rfl rfl ?_
        refine AOps.st 25 rfl rfl rfl (op_pick rfl rfl rfl ?_)
        refine AOps.st 26 rfl rfl rfl (op_move rfl rfl ?_)
        refine AOps.gf 27 rfl rfl rfl rfl rfl ?_
        refine AOps.gf 28 rfl rfl rfl rfl rfl ?_
        refine AOps.gf 29 rfl rfl rfl rfl rfl ?_
        refine AOps.gf 30 rfl rfl rfl rfl rfl ?_
        refine AOps.gf 31 rfl rfl rfl rfl rfl ?_
        refine AOps.st 32 rfl rfl rfl (op_pick rfl rfl rfl ?_)
        refine AOps.st 33 rfl rfl rfl (op_move rfl rfl ?_)
        refine AOps.gf 34 rfl rfl rfl rfl rfl ?_
        refine AOps.gf 35 rfl rfl rfl rfl rfl ?_
        refine AOps.gf 36 rfl rfl rfl rfl rfl ?_
        refine AOps.st 37 rfl rfl rfl (op_pick rfl rfl rfl ?_)
        refine AOps.st 4 rfl rfl rfl (op_assign rfl rfl ?_)
        refine AOps.nil ?_
        refine BoolQ.mk rfl ?_ (by repeat' (first | exact SLe.wo _ _ | exact SLe.refl _ | refine SLe.fresh rfl ?_)) (by first | exact MLe.none _ | exact MLe.refl _ | (repeat' (first | exact MLe.nil | exact MLe.refl _ | refine MLe.cons _ ?_ | refine MLe.drop _ ?_)))
        simp_all; done
      · skip
        refine AOps.gt 21 rfl rfl rfl rfl rfl (op_load_c (cs' := [_, _, _, _, _, _, _, _, _, _, _, _]) rfl ta_53 rfl rfl rfl ?_)
        refine AOps.gt 22 rfl rfl rfl rfl rfl (op_load_c (cs' := [_, _, _, _, _, _, _]) rfl ta_46 rfl rfl rfl ?_)
        refine AOps.gt 23 rfl rfl rfl rfl rfl (op_load_m (cs' := [_, _, _, _, _]) (i := 0) rfl ta_91 rfl rfl rfl rfl ?_)
        refine AOps.gt 24 rfl rfl rfl rfl rfl (op_callb (xs := [.tmp 21, .tmp 22, .tmp 23]) rfl rfl (HN) (by first | exact Les.refl _ | (repeat' (first | exact Les.refl _ | refine Les.cons ?_ ?_ | exact Le.refl _ | exact Le.own _ _ _ | exact Le.nil _ | refine Le.agg ?_))) ?_); intro c24 h24
        refine AOps.st 25 rfl rfl rfl (op_pick rfl rfl rfl ?_)
        refine AOps.st 26 rfl rfl rfl (op_move rfl rfl ?_)
        rcases bool_split h24 with ⟨rfl, g24⟩ | ⟨rfl, g24⟩
        · skip
          refine AOps.gf 27 rfl rfl rfl rfl rfl ?_
          refine AOps.gf 28 rfl rfl rfl rfl rfl ?_
          refine AOps.gf 29 rfl rfl rfl rfl rfl ?_
          refine AOps.gf 30 rfl rfl rfl rfl rfl ?_
          refine AOps.gf 31 rfl rfl rfl rfl rfl ?_
          refine AOps.st 32 rfl rfl rfl (op_pick rfl rfl rfl ?_)
          refine AOps.st 33 rfl rfl rfl (op_move rfl rfl ?_)
          refine AOps.gf 34 rfl rfl rfl rfl rfl ?_
          refine AOps.gf 35 rfl rfl rfl rfl rfl ?_
          refine AOps.gf 36 rfl rfl rfl rfl rfl ?_
          refine AOps.st 37 rfl rfl rfl (op_pick rfl rfl rfl ?_)
          refine AOps.st 4 rfl rfl rfl (op_assign rfl rfl ?_)
          refine AOps.nil ?_
          refine BoolQ.mk rfl ?_ (by repeat' (first | exact SLe.wo _ _ | exact SLe.refl _ | refine SLe.fresh rfl ?_)) (by first | exact MLe.none _ | exact MLe.refl _ | (repeat' (first | exact MLe.nil | exact MLe.refl _ | refine MLe.cons _ ?_ | refine MLe.drop _ ?_)))
          simp_all; done
        · skip
          refine AOps.gt 27 rfl rfl rfl rfl rfl (op_fieldAddr_c rfl tf_46_4 rfl rfl ?_)
          refine AOps.gt 28 rfl rfl rfl rfl rfl (op_load_c1 rfl ta_42 rfl rfl ?_)
          refine AOps.gt 29 rfl rfl rfl rfl rfl (op_load_c (cs' := [_, _, _, _, _, _, _, _, _, _, _, _]) rfl ta_53 rfl rfl rfl ?_)
          refine AOps.gt 30 rfl rfl rfl rfl rfl (op_makeFunc (fs := [.tmp 29]) (cs := []) rfl rfl rfl ?_)
          refine AOps.gt 31 rfl rfl rfl rfl rfl (op_callb (xs := [.tmp 28, .tmp 30]) rfl rfl (HA) (by first | exact Les.refl _ | (repeat' (first | exact Les.refl _ | refine Les.cons ?_ ?_ | exact Le.refl _ | exact Le.own _ _ _ | exact Le.nil _ | refine Le.agg ?_))) ?_); intro c31 h31
          refine AOps.st 32 rfl rfl rfl (op_pick rfl rfl rfl ?_)
          refine AOps.st 33 rfl rfl rfl (op_move rfl rfl ?_)
          rcases bool_split h31 with ⟨rfl, g31⟩ | ⟨rfl, g31⟩
          · skip
            refine AOps.gf 34 rfl rfl rfl rfl rfl ?_
            refine AOps.gf 35 rfl rfl rfl rfl rfl ?_
            refine AOps.gf 36 rfl rfl rfl rfl rfl ?_
            refine AOps.st 37 rfl rfl rfl (op_pick rfl rfl rfl ?_)
            refine AOps.st 4 rfl rfl rfl (op_assign rfl rfl ?_)
            refine AOps.nil ?_
            refine BoolQ.mk rfl ?_ (by repeat' (first | exact SLe.wo _ _ | exact SLe.refl _ | refine SLe.fresh rfl ?_)) (by first | exact MLe.none _ | exact MLe.refl _ | (repeat' (first | exact MLe.nil | exact MLe.refl _ | refine MLe.cons _ ?_ | refine MLe.drop _ ?_)))
            simp_all; done
          · skip
            refine AOps.gt 34 rfl rfl rfl rfl rfl (op_load_c (cs' := [_, _, _, _, _, _, _, _, _, _, _, _]) rfl ta_53 rfl rfl rfl ?_)
            refine AOps.gt 35 rfl rfl rfl rfl rfl (op_load_c (cs' := [_, _, _, _, _, _, _]) rfl ta_46 rfl rfl rfl ?_)
            refine AOps.gt 36 rfl rfl rfl rfl rfl (op_callb (xs := [.tmp 34, .tmp 35]) rfl rfl (HF) (by first | exact Les.refl _ | (repeat' (first | exact Les.refl _ | refine Les.cons ?_ ?_ | exact Le.refl _ | exact Le.own _ _ _ | exact Le.nil _ | refine Le.agg ?_))) ?_); intro c36 h36
            refine AOps.st 37 rfl rfl rfl (op_pick rfl rfl rfl ?_)
            refine AOps.st 4 rfl rfl rfl (op_assign rfl rfl ?_)
            refine AOps.nil ?_
            refine BoolQ.mk rfl ?_ (by repeat' (first | exact SLe.wo _ _ | exact SLe.refl _ | refine SLe.fresh rfl ?_)) (by first | exact MLe.none _ | exact MLe.refl _ | (repeat' (first | exact MLe.nil | exact MLe.refl _ | refine MLe.cons _ ?_ | refine MLe.drop _ ?_)))
            simp_all; done
  intro c4 h4
  refine go_code ?_
  refine c_ret ?_
  exact out_tmp rfl rfl (Le.refl _) (by first | exact MLe.none _ | exact MLe.refl _ | (repeat' (first | exact MLe.nil | exact MLe.refl _ | refine MLe.cons _ ?_ | refine MLe.drop _ ?_))) ⟨⟨_, h4, rfl⟩, rfl⟩
end Go.Proofs.Ytadhakcmfkghbaa
