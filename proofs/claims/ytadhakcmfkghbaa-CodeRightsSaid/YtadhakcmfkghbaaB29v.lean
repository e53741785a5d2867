/- cognateref29.Right -/
import Derived.Test.YtadhakcmfkghbaaB29u
namespace Go.Proofs.Ytadhakcmfkghbaa
open Go.RowKit
set_option maxHeartbeats 4000000 in
set_option maxRecDepth 100000 in
theorem rRight_c (c : Cd) (hc : c.Lim) : BCall Try.prog 8 [.agg c.cells] (RightP c) := by
  have HI := fun (f : Cf) (a : Nat) (x : Is) (hx : x ∈ c.is) (h1 : 1 ≤ f.sl) (h2 : f.sl ≤ 1048576) (h3 : 0 ≤ f.len) (h4 : f.len ≤ 1048576) (h6 : a ≤ 1048576) (hg : c.gl ≤ 1048576) => rins_c x f a c h1 h2 h3 h4 (by omega) (by omega) hg (by
      obtain ⟨is, fu, tx, gl, ys, no⟩ := c
      exact hc.1.2 x hx)
  have hR : ∀ at0 f fs, FunsP c at0 (f :: fs) = (((1 ≤ f.len ∧ f.len ≤ c.is.length - at0 ∧ 1 ≤ f.sl ∧ f.sl ≤ 1048576 ∧ 0 ≤ f.cp ∧ f.cp ≤ 1048576) ∧ (∀ i ∈ (c.is.take (at0 + f.len.toNat)).drop at0, RefP c f at0 i) ∧ (∀ i, c.is[at0 + f.len.toNat - 1]? = some i → endP i)) ∧ FunsP c (at0 + f.len.toNat) fs) := fun _ _ _ => rfl
  have hN : ∀ at0, FunsP c at0 [] = (at0 = c.is.length) := fun _ => rfl
  have hgf : ∀ f, c.is.length = c.is.length ∧ (f ∈ c.fu → f.Lim) := fun f => by
    obtain ⟨is, fu, tx, gl, ys, no⟩ := c
    exact ⟨rfl, hc.2.1.2 f⟩
  unfold RightP HeadP
  generalize RefP c = RP at *
  generalize FunsP c = FP at *
  obtain ⟨is, fu, tx, gl, ys, no⟩ := c
  simp only [Cd.is, Cd.fu, Cd.tx, Cd.gl, Cd.ys, Cd.no] at *
  have hl1 := Is.cellss_len is
  have hl2 := Cf.cellss_len fu
  have hl3 := strs_len tx
  obtain ⟨⟨wl, wsl, wcp⟩, hw⟩ : ∃ p : Cf, 0 < fu.length → fu[0]? = some p := by
    by_cases q : 0 < fu.length
    · exact ⟨fu[0], fun _ => List.getElem?_eq_getElem q⟩
    · exact ⟨⟨0, 0, 0⟩, fun h => absurd h q⟩
  have hw0 : 0 < fu.length → ((∀ f, fu[0]? = some f → f.cp = 0) ↔ wcp = 0) := fun q => by
    rw [hw q]
    exact ⟨fun z => z _ rfl, fun z f e => by cases e; exact z⟩
  generalize (∀ f, fu[0]? = some f → f.cp = 0) = pC at *
  refine ACall.enter Try.func8 rfl (by kernel_rfl) rfl (Nat.le_of_ble_eq_true rfl) ?_
  refine c_start ?_
  refine c_lena (t := 0) (j := 0) rfl rfl (.seq _ _) (fun hmax => ?_)
  refine c_lena (t := 0) (j := 1) rfl rfl (.seq _ _) (fun hmax2 => ?_)
  refine c_lena (t := 0) (j := 2) rfl rfl (.seq _ _) (fun hmax3 => ?_)
  refine c_seq ?_
  refine c_region ?_
  refine AOps.st 1 rfl rfl rfl (op_boxc (cs' := [_, _, _, _, _, _]) rfl rfl rfl rfl ?_)
  refine AOps.st 2 rfl rfl rfl (op_assign rfl rfl ?_)
  refine AOps.nil ?_
  refine go_code ?_
  refine c_seq ?_
  refine c_region ?_
  refine AOps.st 3 rfl rfl rfl (op_assign rfl rfl ?_)
  refine AOps.nil ?_
  refine go_code ?_
  refine c_seq ?_
  refine c_seq ?_
  refine c_bool 75 (¬ (0 < fu.length ∧ fu.length ≤ 1048576 ∧ tx.length ≤ 1048576 ∧ is.length ≤ 1048576 ∧ (0 ≤ gl ∧ gl ≤ 1048576) ∧ (0 ≤ ys ∧ ys ≤ 1048576) ∧ (0 ≤ no ∧ no ≤ 1048576) ∧ pC)) ?_ _ _ rfl ?_
  · skip
    refine AOps.st 10 rfl rfl rfl (op_fieldAddr_c rfl tf_26_1 rfl rfl ?_)
    refine AOps.st 11 rfl rfl rfl (op_load_c1 rfl ta_23 rfl rfl ?_)
    refine AOps.st 12 rfl rfl rfl (op_len rfl tu_23 rfl (.seq _ _) (fun n12 => ?_))
    refine AOps.st 13 rfl rfl rfl (op_eql rfl rfl rfl ?_); intro c13 h13
    refine AOps.st 14 rfl rfl rfl (op_move rfl rfl ?_)
    rcases bool_split h13 with ⟨rfl, g13⟩ | ⟨rfl, g13⟩
    · skip
      refine AOps.gt 15 rfl rfl rfl rfl rfl (op_fieldAddr_c rfl tf_26_1 rfl rfl ?_)
      refine AOps.gt 16 rfl rfl rfl rfl rfl (op_load_c1 rfl ta_23 rfl rfl ?_)
      refine AOps.gt 17 rfl rfl rfl rfl rfl (op_len rfl tu_23 rfl (.seq _ _) (fun n17 => ?_))
      refine AOps.gt 18 rfl rfl rfl rfl rfl (op_move rfl rfl ?_)
      refine AOps.gt 19 rfl rfl rfl rfl rfl (op_gtr rfl rfl rfl ?_); intro c19 h19
      refine AOps.st 20 rfl rfl rfl (op_pick rfl rfl rfl ?_)
      refine AOps.st 21 rfl rfl rfl (op_move rfl rfl ?_)
      rcases bool_split h19 with ⟨rfl, g19⟩ | ⟨rfl, g19⟩
      · skip
        refine AOps.gt 22 rfl rfl rfl rfl rfl (op_fieldAddr_c rfl tf_26_2 rfl rfl ?_)
        refine AOps.gt 23 rfl rfl rfl rfl rfl (op_load_c1 rfl ta_24 rfl rfl ?_)
        refine AOps.gt 24 rfl rfl rfl rfl rfl (op_len rfl tu_24 rfl (.seq _ _) (fun n24 => ?_))
        refine AOps.gt 25 rfl rfl rfl rfl rfl (op_move rfl rfl ?_)
        refine AOps.gt 26 rfl rfl rfl rfl rfl (op_gtr rfl rfl rfl ?_); intro c26 h26
        refine AOps.st 27 rfl rfl rfl (op_pick rfl rfl rfl ?_)
        refine AOps.st 28 rfl rfl rfl (op_move rfl rfl ?_)
        rcases bool_split h26 with ⟨rfl, g26⟩ | ⟨rfl, g26⟩
        · skip
          refine AOps.gt 29 rfl rfl rfl rfl rfl (op_fieldAddr_c rfl tf_26_0 rfl rfl ?_)
          refine AOps.gt 30 rfl rfl rfl rfl rfl (op_load_c1 rfl ta_22 rfl rfl ?_)
          refine AOps.gt 31 rfl rfl rfl rfl rfl (op_len rfl tu_22 rfl (.seq _ _) (fun n31 => ?_))
          refine AOps.gt 32 rfl rfl rfl rfl rfl (op_move rfl rfl ?_)
          refine AOps.gt 33 rfl rfl rfl rfl rfl (op_gtr rfl rfl rfl ?_); intro c33 h33
          refine AOps.st 34 rfl rfl rfl (op_pick rfl rfl rfl ?_)
          refine AOps.st 35 rfl rfl rfl (op_move rfl rfl ?_)
          rcases bool_split h33 with ⟨rfl, g33⟩ | ⟨rfl, g33⟩
          · skip
            refine AOps.gt 36 rfl rfl rfl rfl rfl (op_fieldAddr_c rfl tf_26_3 rfl rfl ?_)
            refine AOps.gt 37 rfl rfl rfl rfl rfl (op_load_c1 rfl ta_3 rfl rfl ?_)
            refine AOps.gt 38 rfl rfl rfl rfl rfl (op_lss rfl rfl rfl ?_); intro c38 h38
            refine AOps.st 39 rfl rfl rfl (op_pick rfl rfl rfl ?_)
            refine AOps.st 40 rfl rfl rfl (op_move rfl rfl ?_)
            rcases bool_split h38 with ⟨rfl, g38⟩ | ⟨rfl, g38⟩
            · skip
              refine AOps.gt 41 rfl rfl rfl rfl rfl (op_fieldAddr_c rfl tf_26_3 rfl rfl ?_)
              refine AOps.gt 42 rfl rfl rfl rfl rfl (op_load_c1 rfl ta_3 rfl rfl ?_)
              refine AOps.gt 43 rfl rfl rfl rfl rfl (op_move rfl rfl ?_)
              refine AOps.gt 44 rfl rfl rfl rfl rfl (op_gtr rfl rfl rfl ?_); intro c44 h44
              refine AOps.st 45 rfl rfl rfl (op_pick rfl rfl rfl ?_)
              refine AOps.st 46 rfl rfl rfl (op_move rfl rfl ?_)
              rcases bool_split h44 with ⟨rfl, g44⟩ | ⟨rfl, g44⟩
              · skip
                refine AOps.gt 47 rfl rfl rfl rfl rfl (op_fieldAddr_c rfl tf_26_4 rfl rfl ?_)
                refine AOps.gt 48 rfl rfl rfl rfl rfl (op_load_c1 rfl ta_3 rfl rfl ?_)
                refine AOps.gt 49 rfl rfl rfl rfl rfl (op_lss rfl rfl rfl ?_); intro c49 h49
                refine AOps.st 50 rfl rfl rfl (op_pick rfl rfl rfl ?_)
                refine AOps.st 51 rfl rfl rfl (op_move rfl rfl ?_)
                rcases bool_split h49 with ⟨rfl, g49⟩ | ⟨rfl, g49⟩
                · skip
                  refine AOps.gt 52 rfl rfl rfl rfl rfl (op_fieldAddr_c rfl tf_26_4 rfl rfl ?_)
                  refine AOps.gt 53 rfl rfl rfl rfl rfl (op_load_c1 rfl ta_3 rfl rfl ?_)
                  refine AOps.gt 54 rfl rfl rfl rfl rfl (op_move rfl rfl ?_)
                  refine AOps.gt 55 rfl rfl rfl rfl rfl (op_gtr rfl rfl rfl ?_); intro c55 h55
                  refine AOps.st 56 rfl rfl rfl (op_pick rfl rfl rfl ?_)
                  refine AOps.st 57 rfl rfl rfl (op_move rfl rfl ?_)
                  rcases bool_split h55 with ⟨rfl, g55⟩ | ⟨rfl, g55⟩
                  · skip
                    refine AOps.gt 58 rfl rfl rfl rfl rfl (op_fieldAddr_c rfl tf_26_5 rfl rfl ?_)
                    refine AOps.gt 59 rfl rfl rfl rfl rfl (op_load_c1 rfl ta_3 rfl rfl ?_)
                    refine AOps.gt 60 rfl rfl rfl rfl rfl (op_lss rfl rfl rfl ?_); intro c60 h60
                    refine AOps.st 61 rfl rfl rfl (op_pick rfl rfl rfl ?_)
                    refine AOps.st 62 rfl rfl rfl (op_move rfl rfl ?_)
                    rcases bool_split h60 with ⟨rfl, g60⟩ | ⟨rfl, g60⟩
                    · skip
                      refine AOps.gt 63 rfl rfl rfl rfl rfl (op_fieldAddr_c rfl tf_26_5 rfl rfl ?_)
                      refine AOps.gt 64 rfl rfl rfl rfl rfl (op_load_c1 rfl ta_3 rfl rfl ?_)
                      refine AOps.gt 65 rfl rfl rfl rfl rfl (op_move rfl rfl ?_)
                      refine AOps.gt 66 rfl rfl rfl rfl rfl (op_gtr rfl rfl rfl ?_); intro c66 h66
                      refine AOps.st 67 rfl rfl rfl (op_pick rfl rfl rfl ?_)
                      refine AOps.st 68 rfl rfl rfl (op_move rfl rfl ?_)
                      rcases bool_split h66 with ⟨rfl, g66⟩ | ⟨rfl, g66⟩
                      · skip
                        refine AOps.gt 69 rfl rfl rfl rfl rfl (op_fieldAddr_c rfl tf_26_1 rfl rfl ?_)
                        refine AOps.gt 70 rfl rfl rfl rfl rfl (op_load_c1 rfl ta_23 rfl rfl ?_)
                        refine AOps.gt 71 rfl rfl rfl rfl rfl (op_index rfl te_23 rfl (.seq _ _) rfl rfl (Cf.cellss_get (hw (by omega))) ?_)
                        first | (refine AOps.gt 72 rfl rfl rfl rfl rfl (op_fieldAddr_m rfl tf_39_2 rfl ?_)) | (refine AOps.gt 72 rfl rfl rfl rfl rfl (op_fieldAddr_c rfl tf_39_2 rfl rfl ?_))
                        first | (refine AOps.gt 73 rfl rfl rfl rfl rfl (op_load_m1 (i := 0) rfl ta_3 rfl rfl rfl ?_)) | (refine AOps.gt 73 rfl rfl rfl rfl rfl (op_load_m1 (i := 1) rfl ta_3 rfl rfl rfl ?_)) | (refine AOps.gt 73 rfl rfl rfl rfl rfl (op_load_m1 (i := 2) rfl ta_3 rfl rfl rfl ?_)) | (refine AOps.gt 73 rfl rfl rfl rfl rfl (op_load_m1 (i := 3) rfl ta_3 rfl rfl rfl ?_)) | (refine AOps.gt 73 rfl rfl rfl rfl rfl (op_load_m1 (i := 4) rfl ta_3 rfl rfl rfl ?_)) | (refine AOps.gt 73 rfl rfl rfl rfl rfl (op_load_m1 (i := 5) rfl ta_3 rfl rfl rfl ?_)) | (refine AOps.gt 73 rfl rfl rfl rfl rfl (op_load_m1 (i := 6) rfl ta_3 rfl rfl rfl ?_)) | (refine AOps.gt 73 rfl rfl rfl rfl rfl (op_load_m1 (i := 7) rfl ta_3 rfl rfl rfl ?_)) | (refine AOps.gt 73 rfl rfl rfl rfl rfl (op_load_m1 (i := 8) rfl ta_3 rfl rfl rfl ?_)) | (refine AOps.gt 73 rfl rfl rfl rfl rfl (op_load_m1 (i := 9) rfl ta_3 rfl rfl rfl ?_)) | (refine AOps.gt 73 rfl rfl rfl rfl rfl (op_load_c1 rfl ta_3 rfl rfl ?_))
                        refine AOps.gt 74 rfl rfl rfl rfl rfl (op_neq rfl rfl rfl ?_); intro c74 h74
                        refine AOps.st 75 rfl rfl rfl (op_pick rfl rfl rfl ?_)
                        refine AOps.nil ?_
                        refine BoolQ.mk rfl ?_ (by repeat' (first | exact SLe.wo _ _ | exact SLe.refl _ | refine SLe.fresh rfl ?_)) (by first | exact MLe.none _ | exact MLe.refl _ | (repeat' (first | exact MLe.nil | exact MLe.refl _ | refine MLe.cons _ ?_ | refine MLe.drop _ ?_)))
                        first | (simp only [true_iff]; omega) | (rw [h74, hw0 (by omega)]; omega)
                      · skip
                        refine AOps.gf 69 rfl rfl rfl rfl rfl ?_
                        refine AOps.gf 70 rfl rfl rfl rfl rfl ?_
                        refine AOps.gf 71 rfl rfl rfl rfl rfl ?_
                        refine AOps.gf 72 rfl rfl rfl rfl rfl ?_
                        refine AOps.gf 73 rfl rfl rfl rfl rfl ?_
                        refine AOps.gf 74 rfl rfl rfl rfl rfl ?_
                        refine AOps.st 75 rfl rfl rfl (op_pick rfl rfl rfl ?_)
                        refine AOps.nil ?_
                        refine BoolQ.mk rfl ?_ (by repeat' (first | exact SLe.wo _ _ | exact SLe.refl _ | refine SLe.fresh rfl ?_)) (by first | exact MLe.none _ | exact MLe.refl _ | (repeat' (first | exact MLe.nil | exact MLe.refl _ | refine MLe.cons _ ?_ | refine MLe.drop _ ?_)))
                        simp only [true_iff]; omega
                    · skip
                      refine AOps.gf 63 rfl rfl rfl rfl rfl ?_
                      refine AOps.gf 64 rfl rfl rfl rfl rfl ?_
                      refine AOps.gf 65 rfl rfl rfl rfl rfl ?_
                      refine AOps.gf 66 rfl rfl rfl rfl rfl ?_
                      refine AOps.st 67 rfl rfl rfl (op_pick rfl rfl rfl ?_)
                      refine AOps.st 68 rfl rfl rfl (op_move rfl rfl ?_)
                      refine AOps.gf 69 rfl rfl rfl rfl rfl ?_
                      refine AOps.gf 70 rfl rfl rfl rfl rfl ?_
                      refine AOps.gf 71 rfl rfl rfl rfl rfl ?_
                      refine AOps.gf 72 rfl rfl rfl rfl rfl ?_
                      refine AOps.gf 73 rfl rfl rfl rfl rfl ?_
                      refine AOps.gf 74 rfl rfl rfl rfl rfl ?_
                      refine AOps.st 75 rfl rfl rfl (op_pick rfl rfl rfl ?_)
                      refine AOps.nil ?_
                      refine BoolQ.mk rfl ?_ (by repeat' (first | exact SLe.wo _ _ | exact SLe.refl _ | refine SLe.fresh rfl ?_)) (by first | exact MLe.none _ | exact MLe.refl _ | (repeat' (first | exact MLe.nil | exact MLe.refl _ | refine MLe.cons _ ?_ | refine MLe.drop _ ?_)))
                      simp only [true_iff]; omega
                  · skip
                    refine AOps.gf 58 rfl rfl rfl rfl rfl ?_
                    refine AOps.gf 59 rfl rfl rfl rfl rfl ?_
                    refine AOps.gf 60 rfl rfl rfl rfl rfl ?_
                    refine AOps.st 61 rfl rfl rfl (op_pick rfl rfl rfl ?_)
                    refine AOps.st 62 rfl rfl rfl (op_move rfl rfl ?_)
                    refine AOps.gf 63 rfl rfl rfl rfl rfl ?_
                    refine AOps.gf 64 rfl rfl rfl rfl rfl ?_
                    refine AOps.gf 65 rfl rfl rfl rfl rfl ?_
                    refine AOps.gf 66 rfl rfl rfl rfl rfl ?_
                    refine AOps.st 67 rfl rfl rfl (op_pick rfl rfl rfl ?_)
                    refine AOps.st 68 rfl rfl rfl (op_move rfl rfl ?_)
                    refine AOps.gf 69 rfl rfl rfl rfl rfl ?_
                    refine AOps.gf 70 rfl rfl rfl rfl rfl ?_
                    refine AOps.gf 71 rfl rfl rfl rfl rfl ?_
                    refine AOps.gf 72 rfl rfl rfl rfl rfl ?_
                    refine AOps.gf 73 rfl rfl rfl rfl rfl ?_
                    refine AOps.gf 74 rfl rfl rfl rfl rfl ?_
                    refine AOps.st 75 rfl rfl rfl (op_pick rfl rfl rfl ?_)
                    refine AOps.nil ?_
                    refine BoolQ.mk rfl ?_ (by repeat' (first | exact SLe.wo _ _ | exact SLe.refl _ | refine SLe.fresh rfl ?_)) (by first | exact MLe.none _ | exact MLe.refl _ | (repeat' (first | exact MLe.nil | exact MLe.refl _ | refine MLe.cons _ ?_ | refine MLe.drop _ ?_)))
                    simp only [true_iff]; omega
                · skip
                  refine AOps.gf 52 rfl rfl rfl rfl rfl ?_
                  refine AOps.gf 53 rfl rfl rfl rfl rfl ?_
                  refine AOps.gf 54 rfl rfl rfl rfl rfl ?_
                  refine AOps.gf 55 rfl rfl rfl rfl rfl ?_
                  refine AOps.st 56 rfl rfl rfl (op_pick rfl rfl rfl ?_)
                  refine AOps.st 57 rfl rfl rfl (op_move rfl rfl ?_)
                  refine AOps.gf 58 rfl rfl rfl rfl rfl ?_
                  refine AOps.gf 59 rfl rfl rfl rfl rfl ?_
                  refine AOps.gf 60 rfl rfl rfl rfl rfl ?_
                  refine AOps.st 61 rfl rfl rfl (op_pick rfl rfl rfl ?_)
                  refine AOps.st 62 rfl rfl rfl (op_move rfl rfl ?_)
                  refine AOps.gf 63 rfl rfl rfl rfl rfl ?_
                  refine AOps.gf 64 rfl rfl rfl rfl rfl ?_
                  refine AOps.gf 65 rfl rfl rfl rfl rfl ?_
                  refine AOps.gf 66 rfl rfl rfl rfl rfl ?_
                  refine AOps.st 67 rfl rfl rfl (op_pick rfl rfl rfl ?_)
                  refine AOps.st 68 rfl rfl rfl (op_move rfl rfl ?_)
                  refine AOps.gf 69 rfl rfl rfl rfl rfl ?_
                  refine AOps.gf 70 rfl rfl rfl rfl rfl ?_
                  refine AOps.gf 71 rfl rfl rfl rfl rfl ?_
                  refine AOps.gf 72 rfl rfl rfl rfl rfl ?_
                  refine AOps.gf 73 rfl rfl rfl rfl rfl ?_
                  refine AOps.gf 74 rfl rfl rfl rfl rfl ?_
                  refine AOps.st 75 rfl rfl rfl (op_pick rfl rfl rfl ?_)
                  refine AOps.nil ?_
                  refine BoolQ.mk rfl ?_ (by repeat' (first | exact SLe.wo _ _ | exact SLe.refl _ | refine SLe.fresh rfl ?_)) (by first | exact MLe.none _ | exact MLe.refl _ | (repeat' (first | exact MLe.nil | exact MLe.refl _ | refine MLe.cons _ ?_ | refine MLe.drop _ ?_)))
                  simp only [true_iff]; omega
              · skip
                refine AOps.gf 47 rfl rfl rfl rfl rfl ?_
                refine AOps.gf 48 rfl rfl rfl rfl rfl ?_
                refine AOps.gf 49 rfl rfl rfl rfl rfl ?_
                refine AOps.st 50 rfl rfl rfl (op_pick rfl rfl rfl ?_)
                refine AOps.st 51 rfl rfl rfl (op_move rfl rfl ?_)
                refine AOps.gf 52 rfl rfl rfl rfl rfl ?_
                refine AOps.gf 53 rfl rfl rfl rfl rfl ?_
                refine AOps.gf 54 rfl rfl rfl rfl rfl ?_
                refine AOps.gf 55 rfl rfl rfl rfl rfl ?_
                refine AOps.st 56 rfl rfl rfl (op_pick rfl rfl rfl ?_)
                refine AOps.st 57 rfl rfl rfl (op_move rfl rfl ?_)
                refine AOps.gf 58 rfl rfl rfl rfl rfl ?_
                refine AOps.gf 59 rfl rfl rfl rfl rfl ?_
                refine AOps.gf 60 rfl rfl rfl rfl rfl ?_
                refine AOps.st 61 rfl rfl rfl (op_pick rfl rfl rfl ?_)
                refine AOps.st 62 rfl rfl rfl (op_move rfl rfl ?_)
                refine AOps.gf 63 rfl rfl rfl rfl rfl ?_
                refine AOps.gf 64 rfl rfl rfl rfl rfl ?_
                refine AOps.gf 65 rfl rfl rfl rfl rfl ?_
                refine AOps.gf 66 rfl rfl rfl rfl rfl ?_
                refine AOps.st 67 rfl rfl rfl (op_pick rfl rfl rfl ?_)
                refine AOps.st 68 rfl rfl rfl (op_move rfl rfl ?_)
                refine AOps.gf 69 rfl rfl rfl rfl rfl ?_
                refine AOps.gf 70 rfl rfl rfl rfl rfl ?_
                refine AOps.gf 71 rfl rfl rfl rfl rfl ?_
                refine AOps.gf 72 rfl rfl rfl rfl rfl ?_
                refine AOps.gf 73 rfl rfl rfl rfl rfl ?_
                refine AOps.gf 74 rfl rfl rfl rfl rfl ?_
                refine AOps.st 75 rfl rfl rfl (op_pick rfl rfl rfl ?_)
                refine AOps.nil ?_
                refine BoolQ.mk rfl ?_ (by repeat' (first | exact SLe.wo _ _ | exact SLe.refl _ | refine SLe.fresh rfl ?_)) (by first | exact MLe.none _ | exact MLe.refl _ | (repeat' (first | exact MLe.nil | exact MLe.refl _ | refine MLe.cons _ ?_ | refine MLe.drop _ ?_)))
                simp only [true_iff]; omega
            · skip
              refine AOps.gf 41 rfl rfl rfl rfl rfl ?_
              refine AOps.gf 42 rfl rfl rfl rfl rfl ?_
              refine AOps.gf 43 rfl rfl rfl rfl rfl ?_
              refine AOps.gf 44 rfl rfl rfl rfl rfl ?_
              refine AOps.st 45 rfl rfl rfl (op_pick rfl rfl rfl ?_)
              refine AOps.st 46 rfl rfl rfl (op_move rfl rfl ?_)
              refine AOps.gf 47 rfl rfl rfl rfl rfl ?_
              refine AOps.gf 48 rfl rfl rfl rfl rfl ?_
              refine AOps.gf 49 rfl rfl rfl rfl rfl ?_
              refine AOps.st 50 rfl rfl rfl (op_pick rfl rfl rfl ?_)
              refine AOps.st 51 rfl rfl rfl (op_move rfl rfl ?_)
              refine AOps.gf 52 rfl rfl rfl rfl rfl ?_
              refine AOps.gf 53 rfl rfl rfl rfl rfl ?_
              refine AOps.gf 54 rfl rfl rfl rfl rfl ?_
              refine AOps.gf 55 rfl rfl rfl rfl rfl ?_
              refine AOps.st 56 rfl rfl rfl (op_pick rfl rfl rfl ?_)
              refine AOps.st 57 rfl rfl rfl (op_move rfl rfl ?_)
              refine AOps.gf 58 rfl rfl rfl rfl rfl ?_
              refine AOps.gf 59 rfl rfl rfl rfl rfl ?_
              refine AOps.gf 60 rfl rfl rfl rfl rfl ?_
              refine AOps.st 61 rfl rfl rfl (op_pick rfl rfl rfl ?_)
              refine AOps.st 62 rfl rfl rfl (op_move rfl rfl ?_)
              refine AOps.gf 63 rfl rfl rfl rfl rfl ?_
              refine AOps.gf 64 rfl rfl rfl rfl rfl ?_
              refine AOps.gf 65 rfl rfl rfl rfl rfl ?_
              refine AOps.gf 66 rfl rfl rfl rfl rfl ?_
              refine AOps.st 67 rfl rfl rfl (op_pick rfl rfl rfl ?_)
              refine AOps.st 68 rfl rfl rfl (op_move rfl rfl ?_)
              refine AOps.gf 69 rfl rfl rfl rfl rfl ?_
              refine AOps.gf 70 rfl rfl rfl rfl rfl ?_
              refine AOps.gf 71 rfl rfl rfl rfl rfl ?_
              refine AOps.gf 72 rfl rfl rfl rfl rfl ?_
              refine AOps.gf 73 rfl rfl rfl rfl rfl ?_
              refine AOps.gf 74 rfl rfl rfl rfl rfl ?_
              refine AOps.st 75 rfl rfl rfl (op_pick rfl rfl rfl ?_)
              refine AOps.nil ?_
              refine BoolQ.mk rfl ?_ (by repeat' (first | exact SLe.wo _ _ | exact SLe.refl _ | refine SLe.fresh rfl ?_)) (by first | exact MLe.none _ | exact MLe.refl _ | (repeat' (first | exact MLe.nil | exact MLe.refl _ | refine MLe.cons _ ?_ | refine MLe.drop _ ?_)))
              simp only [true_iff]; omega
          · skip
            refine AOps.gf 36 rfl rfl rfl rfl rfl ?_
            refine AOps.gf 37 rfl rfl rfl rfl rfl ?_
            refine AOps.gf 38 rfl rfl rfl rfl rfl ?_
            refine AOps.st 39 rfl rfl rfl (op_pick rfl rfl rfl ?_)
            refine AOps.st 40 rfl rfl rfl (op_move rfl rfl ?_)
            refine AOps.gf 41 rfl rfl rfl rfl rfl ?_
            refine AOps.gf 42 rfl rfl rfl rfl rfl ?_
            refine AOps.gf 43 rfl rfl rfl rfl rfl ?_
            refine AOps.gf 44 rfl rfl rfl rfl rfl ?_
            refine AOps.st 45 rfl rfl rfl (op_pick rfl rfl rfl ?_)
            refine AOps.st 46 rfl rfl rfl (op_move rfl rfl ?_)
            refine AOps.gf 47 rfl rfl rfl rfl rfl ?_
            refine AOps.gf 48 rfl rfl rfl rfl rfl ?_
            refine AOps.gf 49 rfl rfl rfl rfl rfl ?_
            refine AOps.st 50 rfl rfl rfl (op_pick rfl rfl rfl ?_)
            refine AOps.st 51 rfl rfl rfl (op_move rfl rfl ?_)
            refine AOps.gf 52 rfl rfl rfl rfl rfl ?_
            refine AOps.gf 53 rfl rfl rfl rfl rfl ?_
            refine AOps.gf 54 rfl rfl rfl rfl rfl ?_
            refine AOps.gf 55 rfl rfl rfl rfl rfl ?_
            refine AOps.st 56 rfl rfl rfl (op_pick rfl rfl rfl ?_)
            refine AOps.st 57 rfl rfl rfl (op_move rfl rfl ?_)
            refine AOps.gf 58 rfl rfl rfl rfl rfl ?_
            refine AOps.gf 59 rfl rfl rfl rfl rfl ?_
            refine AOps.gf 60 rfl rfl rfl rfl rfl ?_
            refine AOps.st 61 rfl rfl rfl (op_pick rfl rfl rfl ?_)
            refine AOps.st 62 rfl rfl rfl (op_move rfl rfl ?_)
            refine AOps.gf 63 rfl rfl rfl rfl rfl ?_
            refine AOps.gf 64 rfl rfl rfl rfl rfl ?_
            refine AOps.gf 65 rfl rfl rfl rfl rfl ?_
            refine AOps.gf 66 rfl rfl rfl rfl rfl ?_
            refine AOps.st 67 rfl rfl rfl (op_pick rfl rfl rfl ?_)
            refine AOps.st 68 rfl rfl rfl (op_move rfl rfl ?_)
            refine AOps.gf 69 rfl rfl rfl rfl rfl ?_
            refine AOps.gf 70 rfl rfl rfl rfl rfl ?_
            refine AOps.gf 71 rfl rfl rfl rfl rfl ?_
            refine AOps.gf 72 rfl rfl rfl rfl rfl ?_
            refine AOps.gf 73 rfl rfl rfl rfl rfl ?_
            refine AOps.gf 74 rfl rfl rfl rfl rfl ?_
            refine AOps.st 75 rfl rfl rfl (op_pick rfl rfl rfl ?_)
            refine AOps.nil ?_
            refine BoolQ.mk rfl ?_ (by repeat' (first | exact SLe.wo _ _ | exact SLe.refl _ | refine SLe.fresh rfl ?_)) (by first | exact MLe.none _ | exact MLe.refl _ | (repeat' (first | exact MLe.nil | exact MLe.refl _ | refine MLe.cons _ ?_ | refine MLe.drop _ ?_)))
            simp only [true_iff]; omega
        · skip
          refine AOps.gf 29 rfl rfl rfl rfl rfl ?_
          refine AOps.gf 30 rfl rfl rfl rfl rfl ?_
          refine AOps.gf 31 rfl rfl rfl rfl rfl ?_
          refine AOps.gf 32 rfl rfl rfl rfl rfl ?_
          refine AOps.gf 33 rfl rfl rfl rfl rfl ?_
          refine AOps.st 34 rfl rfl rfl (op_pick rfl rfl rfl ?_)
          refine AOps.st 35 rfl rfl rfl (op_move rfl rfl ?_)
          refine AOps.gf 36 rfl rfl rfl rfl rfl ?_
          refine AOps.gf 37 rfl rfl rfl rfl rfl ?_
          refine AOps.gf 38 rfl rfl rfl rfl rfl ?_
          refine AOps.st 39 rfl rfl rfl (op_pick rfl rfl rfl ?_)
          refine AOps.st 40 rfl rfl rfl (op_move rfl rfl ?_)
          refine AOps.gf 41 rfl rfl rfl rfl rfl ?_
          refine AOps.gf 42 rfl rfl rfl rfl rfl ?_
          refine AOps.gf 43 rfl rfl rfl rfl rfl ?_
          refine AOps.gf 44 rfl rfl rfl rfl rfl ?_
          refine AOps.st 45 rfl rfl rfl (op_pick rfl rfl rfl ?_)
          refine AOps.st 46 rfl rfl rfl (op_move rfl rfl ?_)
          refine AOps.gf 47 rfl rfl rfl rfl rfl ?_
          refine AOps.gf 48 rfl rfl rfl rfl rfl ?_
          refine AOps.gf 49 rfl rfl rfl rfl rfl ?_
          refine AOps.st 50 rfl rfl rfl (op_pick rfl rfl rfl ?_)
          refine AOps.st 51 rfl rfl rfl (op_move rfl rfl ?_)
          refine AOps.gf 52 rfl rfl rfl rfl rfl ?_
          refine AOps.gf 53 rfl rfl rfl rfl rfl ?_
          refine AOps.gf 54 rfl rfl rfl rfl rfl ?_
          refine AOps.gf 55 rfl rfl rfl rfl rfl ?_
          refine AOps.st 56 rfl rfl rfl (op_pick rfl rfl rfl ?_)
          refine AOps.st 57 rfl rfl rfl (op_move rfl rfl ?_)
          refine AOps.gf 58 rfl rfl rfl rfl rfl ?_
          refine AOps.gf 59 rfl rfl rfl rfl rfl ?_
          refine AOps.gf 60 rfl rfl rfl rfl rfl ?_
          refine AOps.st 61 rfl rfl rfl (op_pick rfl rfl rfl ?_)
          refine AOps.st 62 rfl rfl rfl (op_move rfl rfl ?_)
          refine AOps.gf 63 rfl rfl rfl rfl rfl ?_
          refine AOps.gf 64 rfl rfl rfl rfl rfl ?_
          refine AOps.gf 65 rfl rfl rfl rfl rfl ?_
          refine AOps.gf 66 rfl rfl rfl rfl rfl ?_
          refine AOps.st 67 rfl rfl rfl (op_pick rfl rfl rfl ?_)
          refine AOps.st 68 rfl rfl rfl (op_move rfl rfl ?_)
          refine AOps.gf 69 rfl rfl rfl rfl rfl ?_
          refine AOps.gf 70 rfl rfl rfl rfl rfl ?_
          refine AOps.gf 71 rfl rfl rfl rfl rfl ?_
          refine AOps.gf 72 rfl rfl rfl rfl rfl ?_
          refine AOps.gf 73 rfl rfl rfl rfl rfl ?_
          refine AOps.gf 74 rfl rfl rfl rfl rfl ?_
          refine AOps.st 75 rfl rfl rfl (op_pick rfl rfl rfl ?_)
          refine AOps.nil ?_
          refine BoolQ.mk rfl ?_ (by repeat' (first | exact SLe.wo _ _ | exact SLe.refl _ | refine SLe.fresh rfl ?_)) (by first | exact MLe.none _ | exact MLe.refl _ | (repeat' (first | exact MLe.nil | exact MLe.refl _ | refine MLe.cons _ ?_ | refine MLe.drop _ ?_)))
          simp only [true_iff]; omega
      · skip
        refine AOps.gf 22 rfl rfl rfl rfl rfl ?_
        refine AOps.gf 23 rfl rfl rfl rfl rfl ?_
        refine AOps.gf 24 rfl rfl rfl rfl rfl ?_
        refine AOps.gf 25 rfl rfl rfl rfl rfl ?_
        refine AOps.gf 26 rfl rfl rfl rfl rfl ?_
        refine AOps.st 27 rfl rfl rfl (op_pick rfl rfl rfl ?_)
        refine AOps.st 28 rfl rfl rfl (op_move rfl rfl ?_)
        refine AOps.gf 29 rfl rfl rfl rfl rfl ?_
        refine AOps.gf 30 rfl rfl rfl rfl rfl ?_
        refine AOps.gf 31 rfl rfl rfl rfl rfl ?_
        refine AOps.gf 32 rfl rfl rfl rfl rfl ?_
        refine AOps.gf 33 rfl rfl rfl rfl rfl ?_
        refine AOps.st 34 rfl rfl rfl (op_pick rfl rfl rfl ?_)
        refine AOps.st 35 rfl rfl rfl (op_move rfl rfl ?_)
        refine AOps.gf 36 rfl rfl rfl rfl rfl ?_
        refine AOps.gf 37 rfl rfl rfl rfl rfl ?_
        refine AOps.gf 38 rfl rfl rfl rfl rfl ?_
        refine AOps.st 39 rfl rfl rfl (op_pick rfl rfl rfl ?_)
        refine AOps.st 40 rfl rfl rfl (op_move rfl rfl ?_)
        refine AOps.gf 41 rfl rfl rfl rfl rfl ?_
        refine AOps.gf 42 rfl rfl rfl rfl rfl ?_
        refine AOps.gf 43 rfl rfl rfl rfl rfl ?_
        refine AOps.gf 44 rfl rfl rfl rfl rfl ?_
        refine AOps.st 45 rfl rfl rfl (op_pick rfl rfl rfl ?_)
        refine AOps.st 46 rfl rfl rfl (op_move rfl rfl ?_)
        refine AOps.gf 47 rfl rfl rfl rfl rfl ?_
        refine AOps.gf 48 rfl rfl rfl rfl rfl ?_
        refine AOps.gf 49 rfl rfl rfl rfl rfl ?_
        refine AOps.st 50 rfl rfl rfl (op_pick rfl rfl rfl ?_)
        refine AOps.st 51 rfl rfl rfl (op_move rfl rfl ?_)
        refine AOps.gf 52 rfl rfl rfl rfl rfl ?_
        refine AOps.gf 53 rfl rfl rfl rfl rfl ?_
        refine AOps.gf 54 rfl rfl rfl rfl rfl ?_
        refine AOps.gf 55 rfl rfl rfl rfl rfl ?_
        refine AOps.st 56 rfl rfl rfl (op_pick rfl rfl rfl ?_)
        refine AOps.st 57 rfl rfl rfl (op_move rfl rfl ?_)
        refine AOps.gf 58 rfl rfl rfl rfl rfl ?_
        refine AOps.gf 59 rfl rfl rfl rfl rfl ?_
        refine AOps.gf 60 rfl rfl rfl rfl rfl ?_
        refine AOps.st 61 rfl rfl rfl (op_pick rfl rfl rfl ?_)
        refine AOps.st 62 rfl rfl rfl (op_move rfl rfl ?_)
        refine AOps.gf 63 rfl rfl rfl rfl rfl ?_
        refine AOps.gf 64 rfl rfl rfl rfl rfl ?_
        refine AOps.gf 65 rfl rfl rfl rfl rfl ?_
        refine AOps.gf 66 rfl rfl rfl rfl rfl ?_
        refine AOps.st 67 rfl rfl rfl (op_pick rfl rfl rfl ?_)
        refine AOps.st 68 rfl rfl rfl (op_move rfl rfl ?_)
        refine AOps.gf 69 rfl rfl rfl rfl rfl ?_
        refine AOps.gf 70 rfl rfl rfl rfl rfl ?_
        refine AOps.gf 71 rfl rfl rfl rfl rfl ?_
        refine AOps.gf 72 rfl rfl rfl rfl rfl ?_
        refine AOps.gf 73 rfl rfl rfl rfl rfl ?_
        refine AOps.gf 74 rfl rfl rfl rfl rfl ?_
        refine AOps.st 75 rfl rfl rfl (op_pick rfl rfl rfl ?_)
        refine AOps.nil ?_
        refine BoolQ.mk rfl ?_ (by repeat' (first | exact SLe.wo _ _ | exact SLe.refl _ | refine SLe.fresh rfl ?_)) (by first | exact MLe.none _ | exact MLe.refl _ | (repeat' (first | exact MLe.nil | exact MLe.refl _ | refine MLe.cons _ ?_ | refine MLe.drop _ ?_)))
        simp only [true_iff]; omega
    · skip
      refine AOps.gf 15 rfl rfl rfl rfl rfl ?_
      refine AOps.gf 16 rfl rfl rfl rfl rfl ?_
      refine AOps.gf 17 rfl rfl rfl rfl rfl ?_
      refine AOps.gf 18 rfl rfl rfl rfl rfl ?_
      refine AOps.gf 19 rfl rfl rfl rfl rfl ?_
      refine AOps.st 20 rfl rfl rfl (op_pick rfl rfl rfl ?_)
      refine AOps.st 21 rfl rfl rfl (op_move rfl rfl ?_)
      refine AOps.gf 22 rfl rfl rfl rfl rfl ?_
      refine AOps.gf 23 rfl rfl rfl rfl rfl ?_
      refine AOps.gf 24 rfl rfl rfl rfl rfl ?_
      refine AOps.gf 25 rfl rfl rfl rfl rfl ?_
      refine AOps.gf 26 rfl rfl rfl rfl rfl ?_
      refine AOps.st 27 rfl rfl rfl (op_pick rfl rfl rfl ?_)
      refine AOps.st 28 rfl rfl rfl (op_move rfl rfl ?_)
      refine AOps.gf 29 rfl rfl rfl rfl rfl ?_
      refine AOps.gf 30 rfl rfl rfl rfl rfl ?_
      refine AOps.gf 31 rfl rfl rfl rfl rfl ?_
      refine AOps.gf 32 rfl rfl rfl rfl rfl ?_
      refine AOps.gf 33 rfl rfl rfl rfl rfl ?_
      refine AOps.st 34 rfl rfl rfl (op_pick rfl rfl rfl ?_)
      refine AOps.st 35 rfl rfl rfl (op_move rfl rfl ?_)
      refine AOps.gf 36 rfl rfl rfl rfl rfl ?_
      refine AOps.gf 37 rfl rfl rfl rfl rfl ?_
      refine AOps.gf 38 rfl rfl rfl rfl rfl ?_
      refine AOps.st 39 rfl rfl rfl (op_pick rfl rfl rfl ?_)
      refine AOps.st 40 rfl rfl rfl (op_move rfl rfl ?_)
      refine AOps.gf 41 rfl rfl rfl rfl rfl ?_
      refine AOps.gf 42 rfl rfl rfl rfl rfl ?_
      refine AOps.gf 43 rfl rfl rfl rfl rfl ?_
      refine AOps.gf 44 rfl rfl rfl rfl rfl ?_
      refine AOps.st 45 rfl rfl rfl (op_pick rfl rfl rfl ?_)
      refine AOps.st 46 rfl rfl rfl (op_move rfl rfl ?_)
      refine AOps.gf 47 rfl rfl rfl rfl rfl ?_
      refine AOps.gf 48 rfl rfl rfl rfl rfl ?_
      refine AOps.gf 49 rfl rfl rfl rfl rfl ?_
      refine AOps.st 50 rfl rfl rfl (op_pick rfl rfl rfl ?_)
      refine AOps.st 51 rfl rfl rfl (op_move rfl rfl ?_)
      refine AOps.gf 52 rfl rfl rfl rfl rfl ?_
      refine AOps.gf 53 rfl rfl rfl rfl rfl ?_
      refine AOps.gf 54 rfl rfl rfl rfl rfl ?_
      refine AOps.gf 55 rfl rfl rfl rfl rfl ?_
      refine AOps.st 56 rfl rfl rfl (op_pick rfl rfl rfl ?_)
      refine AOps.st 57 rfl rfl rfl (op_move rfl rfl ?_)
      refine AOps.gf 58 rfl rfl rfl rfl rfl ?_
      refine AOps.gf 59 rfl rfl rfl rfl rfl ?_
      refine AOps.gf 60 rfl rfl rfl rfl rfl ?_
      refine AOps.st 61 rfl rfl rfl (op_pick rfl rfl rfl ?_)
      refine AOps.st 62 rfl rfl rfl (op_move rfl rfl ?_)
      refine AOps.gf 63 rfl rfl rfl rfl rfl ?_
      refine AOps.gf 64 rfl rfl rfl rfl rfl ?_
      refine AOps.gf 65 rfl rfl rfl rfl rfl ?_
      refine AOps.gf 66 rfl rfl rfl rfl rfl ?_
      refine AOps.st 67 rfl rfl rfl (op_pick rfl rfl rfl ?_)
      refine AOps.st 68 rfl rfl rfl (op_move rfl rfl ?_)
      refine AOps.gf 69 rfl rfl rfl rfl rfl ?_
      refine AOps.gf 70 rfl rfl rfl rfl rfl ?_
      refine AOps.gf 71 rfl rfl rfl rfl rfl ?_
      refine AOps.gf 72 rfl rfl rfl rfl rfl ?_
      refine AOps.gf 73 rfl rfl rfl rfl rfl ?_
      refine AOps.gf 74 rfl rfl rfl rfl rfl ?_
      refine AOps.st 75 rfl rfl rfl (op_pick rfl rfl rfl ?_)
      refine AOps.nil ?_
      refine BoolQ.mk rfl ?_ (by repeat' (first | exact SLe.wo _ _ | exact SLe.refl _ | refine SLe.fresh rfl ?_)) (by first | exact MLe.none _ | exact MLe.refl _ | (repeat' (first | exact MLe.nil | exact MLe.refl _ | refine MLe.cons _ ?_ | refine MLe.drop _ ?_)))
      simp only [true_iff]; omega
  intro c75 h75
  refine go_code ?_
  rcases bool_split h75 with ⟨rfl, g75⟩ | ⟨rfl, g75⟩
  · refine c_cond_f rfl ?_
    refine c_skip ?_
    refine go_code ?_
    refine c_seq ?_
    refine c_seq ?_
    have e1 := Classical.not_not.1 g75
    refine c_region ?_
    refine AOps.st 4 rfl rfl rfl (op_assign rfl rfl ?_)
    refine AOps.nil ?_
    refine go_code ?_
    refine c_block ?_
    apply c_loopkm [0, 2, 4, 10, 11, 12, 13, 14, 15, 16, 17, 18, 19, 20, 21, 22, 23, 24, 25, 26, 27, 28, 29, 30, 31, 32, 33, 34, 35, 36, 37, 38, 39, 40, 41, 42, 43, 44, 45, 46, 47, 48, 49, 50, 51, 52, 53, 54, 55, 56, 57, 58, 59, 60, 61, 62, 63, 64, 65, 66, 67, 68, 69, 70, 71, 72, 73, 74, 75, 76, 77, 78, 79, 80, 81, 82, 83, 84, 85, 86, 87, 88, 89, 90] (σ := Nat) (fun zz => match zz with | k => [(4, .val (.int .i64 k))]) (fun zz => match zz with | k => k ≤ tx.length ∧ ((∀ s ∈ tx.drop k, s.size ≤ 1048576) ↔ ∀ s ∈ tx, s.size ≤ 1048576)) (fun zz => match zz with | k => tx.length - k) (0)
    · repeat' (first | exact Drops.nil | apply Drops.keep rfl | apply Drops.skip rfl)
    · exact ⟨by omega, Iff.rfl⟩
    · exact (by repeat' (first | exact SLe.nil _ | refine SLe.cons rfl ?_ ?_ | exact Le.refl _ | exact Le.own _ _ _ | exact Le.nil _))
    rintro k hI
    try dsimp only [List.cons_append, List.nil_append] at hI ⊢
    obtain ⟨hk, hu⟩ := hI
    refine c_seq ?_
    refine c_seq ?_
    refine c_region ?_
    refine AOps.st 76 rfl rfl rfl (op_move rfl rfl ?_)
    refine AOps.st 77 rfl rfl rfl (op_fieldAddr_c rfl tf_26_2 rfl rfl ?_)
    refine AOps.st 78 rfl rfl rfl (op_load_c1 rfl ta_24 rfl rfl ?_)
    refine AOps.st 79 rfl rfl rfl (op_len rfl tu_24 rfl (.seq _ _) (fun n79 => ?_))
    refine AOps.st 80 rfl rfl rfl (op_lss rfl rfl rfl ?_); intro c80 h80
    refine AOps.nil ?_
    refine go_code ?_
    rcases bool_split h80 with ⟨rfl, g80⟩ | ⟨rfl, g80⟩
    · refine c_cond_f rfl ?_
      refine c_exit ?_
      refine x_code ?_
      refine x_lp ?_
      refine x_here ?_
      refine go_code ?_
      refine c_seq ?_
      rw [List.drop_eq_nil_of_le (by omega)] at hu
      have e2 := hu.1 (fun z hz => by simp at hz)
      clear hu
      refine c_region ?_
      refine AOps.st 5 rfl rfl rfl (op_assign rfl rfl ?_)
      refine AOps.nil ?_
      refine go_code ?_
      refine c_seq ?_
      refine c_seq ?_
      refine c_region ?_
      refine AOps.st 6 rfl rfl rfl (op_assign rfl rfl ?_)
      refine AOps.nil ?_
      refine go_code ?_
      refine c_block ?_
      apply c_loopkm [0, 2, 4, 5, 6, 7, 8, 9, 10, 11, 12, 13, 14, 15, 16, 17, 18, 19, 20, 21, 22, 23, 24, 25, 26, 27, 28, 29, 30, 31, 32, 33, 34, 35, 36, 37, 38, 39, 40, 41, 42, 43, 44, 45, 46, 47, 48, 49, 50, 51, 52, 53, 54, 55, 56, 57, 58, 59, 60, 61, 62, 63, 64, 65, 66, 67, 68, 69, 70, 71, 72, 73, 74, 75, 76, 77, 78, 79, 80, 81, 82, 83, 84, 85, 86, 87, 88, 89, 90, 91, 92, 93, 94, 95, 96, 97, 98, 99, 100, 101, 102, 103, 104, 105, 106, 107, 108, 109, 110, 111, 112, 113, 114, 115, 116, 117, 118, 119, 120, 121, 122, 123, 124, 125, 126, 127, 128, 129, 130, 131, 132, 133, 134, 135, 136, 137, 138, 139, 140, 141, 142, 143, 144, 145, 146, 147, 148, 149, 150, 151, 152, 153, 154, 155, 156, 157, 158, 159, 160, 161, 162, 163, 164, 165, 166, 167, 168, 169, 170, 171, 172, 173, 174, 175, 176, 177, 178, 179, 180, 181] (σ := Nat × Nat) (fun zz => match zz with | (k, at0) => [(6, .val (.int .i64 k)), (5, .val (.int .i64 at0))]) (fun zz => match zz with | (k, at0) => k ≤ fu.length ∧ at0 ≤ is.length ∧ (FP at0 (fu.drop k) ↔ FP 0 fu)) (fun zz => match zz with | (k, at0) => fu.length - k) ((0, 0))
      · repeat' (first | exact Drops.nil | apply Drops.keep rfl | apply Drops.skip rfl)
      · exact ⟨by omega, by omega, Iff.rfl⟩
      · exact (by repeat' (first | exact SLe.nil _ | refine SLe.cons rfl ?_ ?_ | exact Le.refl _ | exact Le.own _ _ _ | exact Le.nil _))
      rintro ⟨k, at0⟩ hI
      try dsimp only [List.cons_append, List.nil_append] at hI ⊢
      obtain ⟨hk, hat, hu⟩ := hI
      refine c_seq ?_
      refine c_seq ?_
      refine c_region ?_
      refine AOps.st 91 rfl rfl rfl (op_move rfl rfl ?_)
      refine AOps.st 92 rfl rfl rfl (op_fieldAddr_c rfl tf_26_1 rfl rfl ?_)
      refine AOps.st 93 rfl rfl rfl (op_load_c1 rfl ta_23 rfl rfl ?_)
      refine AOps.st 94 rfl rfl rfl (op_len rfl tu_23 rfl (.seq _ _) (fun n94 => ?_))
      refine AOps.st 95 rfl rfl rfl (op_lss rfl rfl rfl ?_); intro c95 h95
      refine AOps.nil ?_
      refine go_code ?_
      rcases bool_split h95 with ⟨rfl, g95⟩ | ⟨rfl, g95⟩
      · refine c_cond_f rfl ?_
        refine c_exit ?_
        refine x_code ?_
        refine x_lp ?_
        refine x_here ?_
        refine go_code ?_
        refine c_seq ?_
        rw [List.drop_eq_nil_of_le (by omega), hN] at hu
        refine c_region ?_
        refine AOps.st 182 rfl rfl rfl (op_move rfl rfl ?_)
        refine AOps.st 183 rfl rfl rfl (op_fieldAddr_c rfl tf_26_0 rfl rfl ?_)
        refine AOps.st 184 rfl rfl rfl (op_load_c1 rfl ta_22 rfl rfl ?_)
        refine AOps.st 185 rfl rfl rfl (op_len rfl tu_22 rfl (.seq _ _) (fun n185 => ?_))
        refine AOps.st 186 rfl rfl rfl (op_eql rfl rfl rfl ?_); intro c186 h186
        refine AOps.st 2 rfl rfl rfl (op_assign rfl rfl ?_)
        refine AOps.nil ?_
        refine go_code ?_
        refine c_ret ?_
        exact out_tmp rfl rfl (Le.refl _) (by first | exact MLe.none _ | exact MLe.refl _ | (repeat' (first | exact MLe.nil | exact MLe.refl _ | refine MLe.cons _ ?_ | refine MLe.drop _ ?_))) ⟨⟨_, h186.trans (by rw [hl1]; exact ⟨fun q => ⟨e1, e2, hu.1 (by omega)⟩, fun q => by have := hu.2 q.2.2; omega⟩), rfl⟩, rfl⟩
      · refine c_cond_t rfl ?_
        refine c_skip ?_
        refine go_code ?_
        refine c_seq ?_
        refine c_block ?_
        refine c_seq ?_
        obtain ⟨⟨flen, fsl, fcp⟩, hxf⟩ := get_some (l := fu) (i := k) (by first | omega | (simp at *; omega))
        have hcf := Cf.cellss_get hxf
        have hmf := List.mem_of_getElem? hxf
        rw [drop_get hxf, hR] at hu
        have hLf := (hgf _).2 hmf
        obtain ⟨⟨hz1, hz2⟩, _, _⟩ := hLf
        simp only [Cf.len, Cf.sl, Cf.cp] at hu
        refine c_region ?_
        refine AOps.st 98 rfl rfl rfl (op_fieldAddr_c rfl tf_26_1 rfl rfl ?_)
        refine AOps.st 99 rfl rfl rfl (op_load_c1 rfl ta_23 rfl rfl ?_)
        refine AOps.st 100 rfl rfl rfl (op_move rfl rfl ?_)
        refine AOps.st 101 rfl rfl rfl (op_index rfl te_23 rfl (.seq _ _) rfl rfl (by assumption) ?_)
        first | (refine AOps.st 102 rfl rfl rfl (op_load_m (cs' := [_, _, _]) (i := 0) rfl ta_39 rfl rfl rfl rfl ?_)) | (refine AOps.st 102 rfl rfl rfl (op_load_m (cs' := [_, _, _]) (i := 1) rfl ta_39 rfl rfl rfl rfl ?_)) | (refine AOps.st 102 rfl rfl rfl (op_load_m (cs' := [_, _, _]) (i := 2) rfl ta_39 rfl rfl rfl rfl ?_)) | (refine AOps.st 102 rfl rfl rfl (op_load_m (cs' := [_, _, _]) (i := 3) rfl ta_39 rfl rfl rfl rfl ?_)) | (refine AOps.st 102 rfl rfl rfl (op_load_m (cs' := [_, _, _]) (i := 4) rfl ta_39 rfl rfl rfl rfl ?_)) | (refine AOps.st 102 rfl rfl rfl (op_load_m (cs' := [_, _, _]) (i := 5) rfl ta_39 rfl rfl rfl rfl ?_)) | (refine AOps.st 102 rfl rfl rfl (op_load_m (cs' := [_, _, _]) (i := 6) rfl ta_39 rfl rfl rfl rfl ?_)) | (refine AOps.st 102 rfl rfl rfl (op_load_m (cs' := [_, _, _]) (i := 7) rfl ta_39 rfl rfl rfl rfl ?_)) | (refine AOps.st 102 rfl rfl rfl (op_load_m (cs' := [_, _, _]) (i := 8) rfl ta_39 rfl rfl rfl rfl ?_)) | (refine AOps.st 102 rfl rfl rfl (op_load_m (cs' := [_, _, _]) (i := 9) rfl ta_39 rfl rfl rfl rfl ?_)) | (refine AOps.st 102 rfl rfl rfl (op_load_c (cs' := [_, _, _]) rfl ta_39 rfl rfl rfl ?_))
        refine AOps.st 7 rfl rfl rfl (op_alloce (cs' := [_, _, _]) rfl tz_39 rfl rfl ?_); intro b7
        refine AOps.st0 rfl rfl (op_store (cs' := [_, _, _]) (i := 0) rfl ts_39 rfl rfl rfl rfl rfl (Nat.le_of_ble_eq_true rfl) rfl ?_)
        refine AOps.nil ?_
        refine go_code ?_
        refine c_seq ?_
        refine c_seq ?_
        refine c_bool 137 (¬ (1 ≤ flen ∧ flen ≤ is.length - at0 ∧ 1 ≤ fsl ∧ fsl ≤ 1048576 ∧ 0 ≤ fcp ∧ fcp ≤ 1048576)) ?_ _ _ rfl ?_
        · skip
          refine AOps.st 103 rfl rfl rfl (op_fieldAddr_m rfl tf_39_0 rfl ?_)
          refine AOps.st 104 rfl rfl rfl (op_load_m1 (i := 0) rfl ta_3 rfl rfl rfl ?_)
          refine AOps.st 105 rfl rfl rfl (op_lss rfl rfl rfl ?_); intro c105 h105
          refine AOps.st 106 rfl rfl rfl (op_move rfl rfl ?_)
          rcases bool_split h105 with ⟨rfl, g105⟩ | ⟨rfl, g105⟩
          · skip
            refine AOps.gt 107 rfl rfl rfl rfl rfl (op_fieldAddr_m rfl tf_39_0 rfl ?_)
            refine AOps.gt 108 rfl rfl rfl rfl rfl (op_load_m1 (i := 0) rfl ta_3 rfl rfl rfl ?_)
            refine AOps.gt 109 rfl rfl rfl rfl rfl (op_fieldAddr_c rfl tf_26_0 rfl rfl ?_)
            refine AOps.gt 110 rfl rfl rfl rfl rfl (op_load_c1 rfl ta_22 rfl rfl ?_)
            refine AOps.gt 111 rfl rfl rfl rfl rfl (op_len rfl tu_22 rfl (.seq _ _) (fun n111 => ?_))
            refine AOps.gt 112 rfl rfl rfl rfl rfl (op_move rfl rfl ?_)
            refine AOps.gt 113 rfl rfl rfl rfl rfl (op_sub rfl rfl rfl (IntWalk.i64_in _ (by omega)) ?_)
            refine AOps.gt 114 rfl rfl rfl rfl rfl (op_gtr rfl rfl rfl ?_); intro c114 h114
            refine AOps.st 115 rfl rfl rfl (op_pick rfl rfl rfl ?_)
            refine AOps.st 116 rfl rfl rfl (op_move rfl rfl ?_)
            rcases bool_split h114 with ⟨rfl, g114⟩ | ⟨rfl, g114⟩
            · skip
              refine AOps.gt 117 rfl rfl rfl rfl rfl (op_fieldAddr_m rfl tf_39_1 rfl ?_)
              refine AOps.gt 118 rfl rfl rfl rfl rfl (op_load_m1 (i := 0) rfl ta_3 rfl rfl rfl ?_)
              refine AOps.gt 119 rfl rfl rfl rfl rfl (op_lss rfl rfl rfl ?_); intro c119 h119
              refine AOps.st 120 rfl rfl rfl (op_pick rfl rfl rfl ?_)
              refine AOps.st 121 rfl rfl rfl (op_move rfl rfl ?_)
              rcases bool_split h119 with ⟨rfl, g119⟩ | ⟨rfl, g119⟩
              · skip
                refine AOps.gt 122 rfl rfl rfl rfl rfl (op_fieldAddr_m rfl tf_39_1 rfl ?_)
                refine AOps.gt 123 rfl rfl rfl rfl rfl (op_load_m1 (i := 0) rfl ta_3 rfl rfl rfl ?_)
                refine AOps.gt 124 rfl rfl rfl rfl rfl (op_move rfl rfl ?_)
                refine AOps.gt 125 rfl rfl rfl rfl rfl (op_gtr rfl rfl rfl ?_); intro c125 h125
                refine AOps.st 126 rfl rfl rfl (op_pick rfl rfl rfl ?_)
                refine AOps.st 127 rfl rfl rfl (op_move rfl rfl ?_)
                rcases bool_split h125 with ⟨rfl, g125⟩ | ⟨rfl, g125⟩
                · skip
                  refine AOps.gt 128 rfl rfl rfl rfl rfl (op_fieldAddr_m rfl tf_39_2 rfl ?_)
                  refine AOps.gt 129 rfl rfl rfl rfl rfl (op_load_m1 (i := 0) rfl ta_3 rfl rfl rfl ?_)
                  refine AOps.gt 130 rfl rfl rfl rfl rfl (op_lss rfl rfl rfl ?_); intro c130 h130
                  refine AOps.st 131 rfl rfl rfl (op_pick rfl rfl rfl ?_)
                  refine AOps.st 132 rfl rfl rfl (op_move rfl rfl ?_)
                  rcases bool_split h130 with ⟨rfl, g130⟩ | ⟨rfl, g130⟩
                  · skip
                    refine AOps.gt 133 rfl rfl rfl rfl rfl (op_fieldAddr_m rfl tf_39_2 rfl ?_)
                    refine AOps.gt 134 rfl rfl rfl rfl rfl (op_load_m1 (i := 0) rfl ta_3 rfl rfl rfl ?_)
                    refine AOps.gt 135 rfl rfl rfl rfl rfl (op_move rfl rfl ?_)
                    refine AOps.gt 136 rfl rfl rfl rfl rfl (op_gtr rfl rfl rfl ?_); intro c136 h136
                    refine AOps.st 137 rfl rfl rfl (op_pick rfl rfl rfl ?_)
                    refine AOps.nil ?_
                    refine BoolQ.mk rfl ?_ (by repeat' (first | exact SLe.wo _ _ | exact SLe.refl _ | refine SLe.fresh rfl ?_)) (by first | exact MLe.none _ | exact MLe.refl _ | (repeat' (first | exact MLe.nil | exact MLe.refl _ | refine MLe.cons _ ?_ | refine MLe.drop _ ?_)))
                    first | (simp only [true_iff]; omega) | (rw [h136]; omega)
                  · skip
                    refine AOps.gf 133 rfl rfl rfl rfl rfl ?_
                    refine AOps.gf 134 rfl rfl rfl rfl rfl ?_
                    refine AOps.gf 135 rfl rfl rfl rfl rfl ?_
                    refine AOps.gf 136 rfl rfl rfl rfl rfl ?_
                    refine AOps.st 137 rfl rfl rfl (op_pick rfl rfl rfl ?_)
                    refine AOps.nil ?_
                    refine BoolQ.mk rfl ?_ (by repeat' (first | exact SLe.wo _ _ | exact SLe.refl _ | refine SLe.fresh rfl ?_)) (by first | exact MLe.none _ | exact MLe.refl _ | (repeat' (first | exact MLe.nil | exact MLe.refl _ | refine MLe.cons _ ?_ | refine MLe.drop _ ?_)))
                    simp only [true_iff]; omega
                · skip
                  refine AOps.gf 128 rfl rfl rfl rfl rfl ?_
                  refine AOps.gf 129 rfl rfl rfl rfl rfl ?_
                  refine AOps.gf 130 rfl rfl rfl rfl rfl ?_
                  refine AOps.st 131 rfl rfl rfl (op_pick rfl rfl rfl ?_)
                  refine AOps.st 132 rfl rfl rfl (op_move rfl rfl ?_)
                  refine AOps.gf 133 rfl rfl rfl rfl rfl ?_
                  refine AOps.gf 134 rfl rfl rfl rfl rfl ?_
                  refine AOps.gf 135 rfl rfl rfl rfl rfl ?_
                  refine AOps.gf 136 rfl rfl rfl rfl rfl ?_
                  refine AOps.st 137 rfl rfl rfl (op_pick rfl rfl rfl ?_)
                  refine AOps.nil ?_
                  refine BoolQ.mk rfl ?_ (by repeat' (first | exact SLe.wo _ _ | exact SLe.refl _ | refine SLe.fresh rfl ?_)) (by first | exact MLe.none _ | exact MLe.refl _ | (repeat' (first | exact MLe.nil | exact MLe.refl _ | refine MLe.cons _ ?_ | refine MLe.drop _ ?_)))
                  simp only [true_iff]; omega
              · skip
                refine AOps.gf 122 rfl rfl rfl rfl rfl ?_
                refine AOps.gf 123 rfl rfl rfl rfl rfl ?_
                refine AOps.gf 124 rfl rfl rfl rfl rfl ?_
                refine AOps.gf 125 rfl rfl rfl rfl rfl ?_
                refine AOps.st 126 rfl rfl rfl (op_pick rfl rfl rfl ?_)
                refine AOps.st 127 rfl rfl rfl (op_move rfl rfl ?_)
                refine AOps.gf 128 rfl rfl rfl rfl rfl ?_
                refine AOps.gf 129 rfl rfl rfl rfl rfl ?_
                refine AOps.gf 130 rfl rfl rfl rfl rfl ?_
                refine AOps.st 131 rfl rfl rfl (op_pick rfl rfl rfl ?_)
                refine AOps.st 132 rfl rfl rfl (op_move rfl rfl ?_)
                refine AOps.gf 133 rfl rfl rfl rfl rfl ?_
                refine AOps.gf 134 rfl rfl rfl rfl rfl ?_
                refine AOps.gf 135 rfl rfl rfl rfl rfl ?_
                refine AOps.gf 136 rfl rfl rfl rfl rfl ?_
                refine AOps.st 137 rfl rfl rfl (op_pick rfl rfl rfl ?_)
                refine AOps.nil ?_
                refine BoolQ.mk rfl ?_ (by repeat' (first | exact SLe.wo _ _ | exact SLe.refl _ | refine SLe.fresh rfl ?_)) (by first | exact MLe.none _ | exact MLe.refl _ | (repeat' (first | exact MLe.nil | exact MLe.refl _ | refine MLe.cons _ ?_ | refine MLe.drop _ ?_)))
                simp only [true_iff]; omega
            · skip
              refine AOps.gf 117 rfl rfl rfl rfl rfl ?_
              refine AOps.gf 118 rfl rfl rfl rfl rfl ?_
              refine AOps.gf 119 rfl rfl rfl rfl rfl ?_
              refine AOps.st 120 rfl rfl rfl (op_pick rfl rfl rfl ?_)
              refine AOps.st 121 rfl rfl rfl (op_move rfl rfl ?_)
              refine AOps.gf 122 rfl rfl rfl rfl rfl ?_
              refine AOps.gf 123 rfl rfl rfl rfl rfl ?_
              refine AOps.gf 124 rfl rfl rfl rfl rfl ?_
              refine AOps.gf 125 rfl rfl rfl rfl rfl ?_
              refine AOps.st 126 rfl rfl rfl (op_pick rfl rfl rfl ?_)
              refine AOps.st 127 rfl rfl rfl (op_move rfl rfl ?_)
              refine AOps.gf 128 rfl rfl rfl rfl rfl ?_
              refine AOps.gf 129 rfl rfl rfl rfl rfl ?_
              refine AOps.gf 130 rfl rfl rfl rfl rfl ?_
              refine AOps.st 131 rfl rfl rfl (op_pick rfl rfl rfl ?_)
              refine AOps.st 132 rfl rfl rfl (op_move rfl rfl ?_)
              refine AOps.gf 133 rfl rfl rfl rfl rfl ?_
              refine AOps.gf 134 rfl rfl rfl rfl rfl ?_
              refine AOps.gf 135 rfl rfl rfl rfl rfl ?_
              refine AOps.gf 136 rfl rfl rfl rfl rfl ?_
              refine AOps.st 137 rfl rfl rfl (op_pick rfl rfl rfl ?_)
              refine AOps.nil ?_
              refine BoolQ.mk rfl ?_ (by repeat' (first | exact SLe.wo _ _ | exact SLe.refl _ | refine SLe.fresh rfl ?_)) (by first | exact MLe.none _ | exact MLe.refl _ | (repeat' (first | exact MLe.nil | exact MLe.refl _ | refine MLe.cons _ ?_ | refine MLe.drop _ ?_)))
              simp only [true_iff]; omega
          · skip
            refine AOps.gf 107 rfl rfl rfl rfl rfl ?_
            refine AOps.gf 108 rfl rfl rfl rfl rfl ?_
            refine AOps.gf 109 rfl rfl rfl rfl rfl ?_
            refine AOps.gf 110 rfl rfl rfl rfl rfl ?_
            refine AOps.gf 111 rfl rfl rfl rfl rfl ?_
            refine AOps.gf 112 rfl rfl rfl rfl rfl ?_
            refine AOps.gf 113 rfl rfl rfl rfl rfl ?_
            refine AOps.gf 114 rfl rfl rfl rfl rfl ?_
            refine AOps.st 115 rfl rfl rfl (op_pick rfl rfl rfl ?_)
            refine AOps.st 116 rfl rfl rfl (op_move rfl rfl ?_)
            refine AOps.gf 117 rfl rfl rfl rfl rfl ?_
            refine AOps.gf 118 rfl rfl rfl rfl rfl ?_
            refine AOps.gf 119 rfl rfl rfl rfl rfl ?_
            refine AOps.st 120 rfl rfl rfl (op_pick rfl rfl rfl ?_)
            refine AOps.st 121 rfl rfl rfl (op_move rfl rfl ?_)
            refine AOps.gf 122 rfl rfl rfl rfl rfl ?_
            refine AOps.gf 123 rfl rfl rfl rfl rfl ?_
            refine AOps.gf 124 rfl rfl rfl rfl rfl ?_
            refine AOps.gf 125 rfl rfl rfl rfl rfl ?_
            refine AOps.st 126 rfl rfl rfl (op_pick rfl rfl rfl ?_)
            refine AOps.st 127 rfl rfl rfl (op_move rfl rfl ?_)
            refine AOps.gf 128 rfl rfl rfl rfl rfl ?_
            refine AOps.gf 129 rfl rfl rfl rfl rfl ?_
            refine AOps.gf 130 rfl rfl rfl rfl rfl ?_
            refine AOps.st 131 rfl rfl rfl (op_pick rfl rfl rfl ?_)
            refine AOps.st 132 rfl rfl rfl (op_move rfl rfl ?_)
            refine AOps.gf 133 rfl rfl rfl rfl rfl ?_
            refine AOps.gf 134 rfl rfl rfl rfl rfl ?_
            refine AOps.gf 135 rfl rfl rfl rfl rfl ?_
            refine AOps.gf 136 rfl rfl rfl rfl rfl ?_
            refine AOps.st 137 rfl rfl rfl (op_pick rfl rfl rfl ?_)
            refine AOps.nil ?_
            refine BoolQ.mk rfl ?_ (by repeat' (first | exact SLe.wo _ _ | exact SLe.refl _ | refine SLe.fresh rfl ?_)) (by first | exact MLe.none _ | exact MLe.refl _ | (repeat' (first | exact MLe.nil | exact MLe.refl _ | refine MLe.cons _ ?_ | refine MLe.drop _ ?_)))
            simp only [true_iff]; omega
        intro c137 h137
        refine go_code ?_
        rcases bool_split h137 with ⟨rfl, g137⟩ | ⟨rfl, g137⟩
        · refine c_cond_f rfl ?_
          refine c_skip ?_
          refine go_code ?_
          refine c_seq ?_
          refine c_seq ?_
          have e3 := Classical.not_not.1 g137
          obtain ⟨⟨lop, la, lb, ln, lar, lfs, lcp⟩, hl⟩ := get_some (l := is) (i := at0 + flen.toNat - 1) (by omega)
          have hcl := Is.cellss_get hl
          have hle : (∀ i, is[at0 + flen.toNat - 1]? = some i → endP i) ↔ (lop = 6 ∨ lop = 7 ∨ lop = 14 ∨ lop = 15) := by
            rw [hl]; exact ⟨fun z => z _ rfl, fun z i e => by cases e; exact z⟩
          rw [hle] at hu
          have hI2 := fun x hx => HI ⟨flen, fsl, fcp⟩ at0 x hx (by simp only [Cf.sl]; omega) (by simp only [Cf.sl]; omega) (by simp only [Cf.len]; omega) (by simp only [Cf.len]; omega) (by omega) (by omega)
          generalize hiP : (∀ i ∈ (is.take (at0 + flen.toNat)).drop at0, RP ⟨flen, fsl, fcp⟩ at0 i) = iP at *
          generalize RP ⟨flen, fsl, fcp⟩ at0 = rP at *
          refine c_region ?_
          refine AOps.st 138 rfl rfl rfl (op_move rfl rfl ?_)
          refine AOps.st 8 rfl rfl rfl (op_assign rfl rfl ?_)
          refine AOps.nil ?_
          refine go_code ?_
          refine c_block ?_
          apply c_loopkm [0, 2, 4, 8, 10, 11, 12, 13, 14, 15, 16, 17, 18, 19, 20, 21, 22, 23, 24, 25, 26, 27, 28, 29, 30, 31, 32, 33, 34, 35, 36, 37, 38, 39, 40, 41, 42, 43, 44, 45, 46, 47, 48, 49, 50, 51, 52, 53, 54, 55, 56, 57, 58, 59, 60, 61, 62, 63, 64, 65, 66, 67, 68, 69, 70, 71, 72, 73, 74, 75, 76, 77, 78, 79, 80, 81, 82, 83, 84, 85, 86, 87, 88, 89, 90, 139, 140, 141, 142, 143, 144, 145, 146, 147, 148, 149, 150, 151, 152, 153, 154, 155, 156] (σ := Nat) (fun zz => match zz with | j => [(8, .val (.int .i64 j))]) (fun zz => match zz with | j => at0 ≤ j ∧ j ≤ at0 + flen.toNat ∧ ((∀ i ∈ (is.take (at0 + flen.toNat)).drop j, rP i) ↔ iP)) (fun zz => match zz with | j => at0 + flen.toNat - j) (at0)
          · repeat' (first | exact Drops.nil | apply Drops.keep rfl | apply Drops.skip rfl)
          · exact ⟨by omega, by omega, by rw [hiP]⟩
          · exact (by repeat' (first | exact SLe.nil _ | refine SLe.cons rfl ?_ ?_ | exact Le.refl _ | exact Le.own _ _ _ | exact Le.nil _))
          rintro j hI
          try dsimp only [List.cons_append, List.nil_append] at hI ⊢
          obtain ⟨hj1, hj2, hv⟩ := hI
          refine c_seq ?_
          refine c_seq ?_
          refine c_region ?_
          refine AOps.st 139 rfl rfl rfl (op_move rfl rfl ?_)
          refine AOps.st 140 rfl rfl rfl (op_move rfl rfl ?_)
          refine AOps.st 141 rfl rfl rfl (op_fieldAddr_m rfl tf_39_0 rfl ?_)
          refine AOps.st 142 rfl rfl rfl (op_load_m1 (i := 0) rfl ta_3 rfl rfl rfl ?_)
          refine AOps.st 143 rfl rfl rfl (op_add rfl rfl rfl (IntWalk.i64_in _ (by omega)) ?_)
          refine AOps.st 144 rfl rfl rfl (op_lss rfl rfl rfl ?_); intro c144 h144
          refine AOps.nil ?_
          refine go_code ?_
          rcases bool_split h144 with ⟨rfl, g144⟩ | ⟨rfl, g144⟩
          · refine c_cond_f rfl ?_
            refine c_exit ?_
            refine x_code ?_
            refine x_lp ?_
            refine x_here ?_
            refine go_code ?_
            refine c_seq ?_
            have hiT : iP := by
              rw [List.drop_eq_nil_of_le (by rw [List.length_take]; omega)] at hv
              exact hv.1 (fun z hz => by simp at hz)
            refine c_region ?_
            refine AOps.st 157 rfl rfl rfl (op_move rfl rfl ?_)
            refine AOps.st 158 rfl rfl rfl (op_fieldAddr_m rfl tf_39_0 rfl ?_)
            refine AOps.st 159 rfl rfl rfl (op_load_m1 (i := 0) rfl ta_3 rfl rfl rfl ?_)
            refine AOps.st 160 rfl rfl rfl (op_add rfl rfl rfl (IntWalk.i64_in _ (by omega)) ?_)
            refine AOps.st 5 rfl rfl rfl (op_assign rfl rfl ?_)
            refine AOps.nil ?_
            refine go_code ?_
            refine c_seq ?_
            refine c_region ?_
            refine AOps.st 161 rfl rfl rfl (op_fieldAddr_c rfl tf_26_0 rfl rfl ?_)
            refine AOps.st 162 rfl rfl rfl (op_load_c1 rfl ta_22 rfl rfl ?_)
            refine AOps.st 163 rfl rfl rfl (op_move rfl rfl ?_)
            refine AOps.st 164 rfl rfl rfl (op_sub rfl rfl rfl (IntWalk.i64_in _ (by omega)) ?_)
            first | (refine AOps.st 165 rfl rfl rfl (op_index rfl te_22 rfl (.seq _ _) rfl rfl (hcl) ?_)) | (refine AOps.st 165 rfl rfl rfl (op_index (i := 0) rfl te_22 rfl (.seq _ _) rfl rfl (by first | rfl | assumption) ?_)) | (refine AOps.st 165 rfl rfl rfl (op_index (i := 1) rfl te_22 rfl (.seq _ _) rfl rfl (by first | rfl | assumption) ?_)) | (refine AOps.st 165 rfl rfl rfl (op_index rfl te_22 rfl (.own _ _ _) rfl rfl (hcl) ?_)) | (refine AOps.st 165 rfl rfl rfl (op_index (i := 0) rfl te_22 rfl (.own _ _ _) rfl rfl (by first | rfl | assumption) ?_)) | (refine AOps.st 165 rfl rfl rfl (op_index (i := 1) rfl te_22 rfl (.own _ _ _) rfl rfl (by first | rfl | assumption) ?_)) | (refine AOps.st 165 rfl rfl rfl (op_index (i := at0 + flen.toNat - 1) rfl te_22 rfl (.seq _ _) rfl (by first | rfl | omega) (hcl) ?_))
            first | (refine AOps.st 166 rfl rfl rfl (op_fieldAddr_m rfl tf_46_0 rfl ?_)) | (refine AOps.st 166 rfl rfl rfl (op_fieldAddr_c rfl tf_46_0 rfl rfl ?_))
            first | (refine AOps.st 167 rfl rfl rfl (op_load_m1 (i := 0) rfl ta_3 rfl rfl rfl ?_)) | (refine AOps.st 167 rfl rfl rfl (op_load_m1 (i := 1) rfl ta_3 rfl rfl rfl ?_)) | (refine AOps.st 167 rfl rfl rfl (op_load_m1 (i := 2) rfl ta_3 rfl rfl rfl ?_)) | (refine AOps.st 167 rfl rfl rfl (op_load_m1 (i := 3) rfl ta_3 rfl rfl rfl ?_)) | (refine AOps.st 167 rfl rfl rfl (op_load_m1 (i := 4) rfl ta_3 rfl rfl rfl ?_)) | (refine AOps.st 167 rfl rfl rfl (op_load_m1 (i := 5) rfl ta_3 rfl rfl rfl ?_)) | (refine AOps.st 167 rfl rfl rfl (op_load_m1 (i := 6) rfl ta_3 rfl rfl rfl ?_)) | (refine AOps.st 167 rfl rfl rfl (op_load_m1 (i := 7) rfl ta_3 rfl rfl rfl ?_)) | (refine AOps.st 167 rfl rfl rfl (op_load_m1 (i := 8) rfl ta_3 rfl rfl rfl ?_)) | (refine AOps.st 167 rfl rfl rfl (op_load_m1 (i := 9) rfl ta_3 rfl rfl rfl ?_)) | (refine AOps.st 167 rfl rfl rfl (op_load_c1 rfl ta_3 rfl rfl ?_))
            refine AOps.st 9 rfl rfl rfl (op_assign rfl rfl ?_)
            refine AOps.nil ?_
            refine go_code ?_
            refine c_seq ?_
            refine c_bool 181 (¬ (lop = 6 ∨ lop = 7 ∨ lop = 14 ∨ lop = 15)) ?_ _ _ rfl ?_
            · skip
              refine AOps.st 168 rfl rfl rfl (op_move rfl rfl ?_)
              refine AOps.st 169 rfl rfl rfl (op_neq rfl rfl rfl ?_); intro c169 h169
              refine AOps.st 170 rfl rfl rfl (op_move rfl rfl ?_)
              rcases bool_split h169 with ⟨rfl, g169⟩ | ⟨rfl, g169⟩
              · skip
                refine AOps.gf 171 rfl rfl rfl rfl rfl ?_
                refine AOps.gf 172 rfl rfl rfl rfl rfl ?_
                refine AOps.st 173 rfl rfl rfl (op_pick rfl rfl rfl ?_)
                refine AOps.st 174 rfl rfl rfl (op_move rfl rfl ?_)
                refine AOps.gf 175 rfl rfl rfl rfl rfl ?_
                refine AOps.gf 176 rfl rfl rfl rfl rfl ?_
                refine AOps.st 177 rfl rfl rfl (op_pick rfl rfl rfl ?_)
                refine AOps.st 178 rfl rfl rfl (op_move rfl rfl ?_)
                refine AOps.gf 179 rfl rfl rfl rfl rfl ?_
                refine AOps.gf 180 rfl rfl rfl rfl rfl ?_
                refine AOps.st 181 rfl rfl rfl (op_pick rfl rfl rfl ?_)
                refine AOps.nil ?_
                refine BoolQ.mk rfl ?_ (by repeat' (first | exact SLe.wo _ _ | exact SLe.refl _ | refine SLe.fresh rfl ?_)) (by first | exact MLe.none _ | exact MLe.refl _ | (repeat' (first | exact MLe.nil | exact MLe.refl _ | refine MLe.cons _ ?_ | refine MLe.drop _ ?_)))
                simp_all; done
              · skip
                refine AOps.gt 171 rfl rfl rfl rfl rfl (op_move rfl rfl ?_)
                refine AOps.gt 172 rfl rfl rfl rfl rfl (op_neq rfl rfl rfl ?_); intro c172 h172
                refine AOps.st 173 rfl rfl rfl (op_pick rfl rfl rfl ?_)
                refine AOps.st 174 rfl rfl rfl (op_move rfl rfl ?_)
                rcases bool_split h172 with ⟨rfl, g172⟩ | ⟨rfl, g172⟩
                · skip
                  refine AOps.gf 175 rfl rfl rfl rfl rfl ?_
                  refine AOps.gf 176 rfl rfl rfl rfl rfl ?_
                  refine AOps.st 177 rfl rfl rfl (op_pick rfl rfl rfl ?_)
                  refine AOps.st 178 rfl rfl rfl (op_move rfl rfl ?_)
                  refine AOps.gf 179 rfl rfl rfl rfl rfl ?_
                  refine AOps.gf 180 rfl rfl rfl rfl rfl ?_
                  refine AOps.st 181 rfl rfl rfl (op_pick rfl rfl rfl ?_)
                  refine AOps.nil ?_
                  refine BoolQ.mk rfl ?_ (by repeat' (first | exact SLe.wo _ _ | exact SLe.refl _ | refine SLe.fresh rfl ?_)) (by first | exact MLe.none _ | exact MLe.refl _ | (repeat' (first | exact MLe.nil | exact MLe.refl _ | refine MLe.cons _ ?_ | refine MLe.drop _ ?_)))
                  simp_all; done
                · skip
                  refine AOps.gt 175 rfl rfl rfl rfl rfl (op_move rfl rfl ?_)
                  refine AOps.gt 176 rfl rfl rfl rfl rfl (op_neq rfl rfl rfl ?_); intro c176 h176
                  refine AOps.st 177 rfl rfl rfl (op_pick rfl rfl rfl ?_)
                  refine AOps.st 178 rfl rfl rfl (op_move rfl rfl ?_)
                  rcases bool_split h176 with ⟨rfl, g176⟩ | ⟨rfl, g176⟩
                  · skip
                    refine AOps.gf 179 rfl rfl rfl rfl rfl ?_
                    refine AOps.gf 180 rfl rfl rfl rfl rfl ?_
                    refine AOps.st 181 rfl rfl rfl (op_pick rfl rfl rfl ?_)
                    refine AOps.nil ?_
                    refine BoolQ.mk rfl ?_ (by repeat' (first | exact SLe.wo _ _ | exact SLe.refl _ | refine SLe.fresh rfl ?_)) (by first | exact MLe.none _ | exact MLe.refl _ | (repeat' (first | exact MLe.nil | exact MLe.refl _ | refine MLe.cons _ ?_ | refine MLe.drop _ ?_)))
                    simp_all; done
                  · skip
                    refine AOps.gt 179 rfl rfl rfl rfl rfl (op_move rfl rfl ?_)
                    refine AOps.gt 180 rfl rfl rfl rfl rfl (op_neq rfl rfl rfl ?_); intro c180 h180
                    refine AOps.st 181 rfl rfl rfl (op_pick rfl rfl rfl ?_)
                    refine AOps.nil ?_
                    refine BoolQ.mk rfl ?_ (by repeat' (first | exact SLe.wo _ _ | exact SLe.refl _ | refine SLe.fresh rfl ?_)) (by first | exact MLe.none _ | exact MLe.refl _ | (repeat' (first | exact MLe.nil | exact MLe.refl _ | refine MLe.cons _ ?_ | refine MLe.drop _ ?_)))
                    simp_all; done
            intro c181 h181
            refine go_code ?_
            rcases bool_split h181 with ⟨rfl, g181⟩ | ⟨rfl, g181⟩
            · refine c_cond_f rfl ?_
              refine c_skip ?_
              refine go_blk ?_
              refine go_code ?_
              refine c_region ?_
              refine AOps.st 96 rfl rfl rfl (op_move rfl rfl ?_)
              refine AOps.st 97 rfl rfl rfl (op_add rfl rfl rfl (IntWalk.i64_in _ (by omega)) ?_)
              refine AOps.st 6 rfl rfl rfl (op_assign rfl rfl ?_)
              refine AOps.nil ?_
              refine go_lp ?_
              exact ⟨(k + 1, at0 + flen.toNat), ⟨by show k + 1 ≤ _; omega, by show at0 + flen.toNat ≤ _; omega, ⟨fun q => hu.1 ⟨⟨e3, hiT, Classical.not_not.1 g181⟩, q⟩, fun q => (hu.2 q).2⟩⟩, by simp; omega, (SLe.cons rfl (Le.refl _) (SLe.cons rfl (Le.ieq (by omega)) (by repeat' (first | exact SLe.nil _ | refine SLe.cons rfl ?_ ?_ | exact Le.refl _ | exact Le.own _ _ _ | exact Le.nil _)))), (by first | exact MLe.none _ | exact MLe.refl _ | (repeat' (first | exact MLe.nil | exact MLe.refl _ | refine MLe.cons _ ?_ | refine MLe.drop _ ?_)))⟩
            · refine c_cond_t rfl ?_
              refine c_seq ?_
              refine c_region ?_
              refine AOps.st 2 rfl rfl rfl (op_assign rfl rfl ?_)
              refine AOps.nil ?_
              refine go_code ?_
              refine c_ret ?_
              exact out_tmp rfl rfl (Le.refl _) (by first | exact MLe.none _ | exact MLe.refl _ | (repeat' (first | exact MLe.nil | exact MLe.refl _ | refine MLe.cons _ ?_ | refine MLe.drop _ ?_))) ⟨⟨_, iff_f (fun q => g181 (hu.2 q.2.2).1.2.2), rfl⟩, rfl⟩
          · refine c_cond_t rfl ?_
            refine c_skip ?_
            refine go_code ?_
            refine c_seq ?_
            refine c_block ?_
            refine c_seq ?_
            obtain ⟨⟨xop, xa, xb, xn, xar, xfs, xcp⟩, hx⟩ := get_some (l := is) (i := j) (by omega)
            have hcx := Is.cellss_get hx
            have hx2 : (is.take (at0 + flen.toNat))[j]? = some ⟨xop, xa, xb, xn, xar, xfs, xcp⟩ := by rw [List.getElem?_take, if_pos (by omega), hx]
            rw [drop_get hx2] at hv
            refine c_drawn tmix rfl ?_
            refine DOps.st 147 rfl rfl (op_fieldAddr_c rfl tf_26_0 rfl rfl ⟨rfl, rfl⟩) ?_
            refine DOps.st 148 rfl rfl (op_load_c1 rfl ta_22 rfl rfl ⟨rfl, rfl⟩) ?_
            refine DOps.st 149 rfl rfl (op_move rfl rfl ⟨rfl, rfl⟩) ?_
            refine DOps.st 150 rfl rfl (op_index rfl te_22 rfl (.seq _ _) rfl rfl (by assumption) ⟨rfl, rfl⟩) ?_
            first | (refine DOps.st 151 rfl rfl (op_load_m (cs' := [_, _, _, _, _, _, _]) (i := 0) rfl ta_46 rfl rfl rfl rfl ⟨rfl, rfl⟩) ?_) | (refine DOps.st 151 rfl rfl (op_load_m (cs' := [_, _, _, _, _, _, _]) (i := 1) rfl ta_46 rfl rfl rfl rfl ⟨rfl, rfl⟩) ?_) | (refine DOps.st 151 rfl rfl (op_load_m (cs' := [_, _, _, _, _, _, _]) (i := 2) rfl ta_46 rfl rfl rfl rfl ⟨rfl, rfl⟩) ?_) | (refine DOps.st 151 rfl rfl (op_load_m (cs' := [_, _, _, _, _, _, _]) (i := 3) rfl ta_46 rfl rfl rfl rfl ⟨rfl, rfl⟩) ?_) | (refine DOps.st 151 rfl rfl (op_load_m (cs' := [_, _, _, _, _, _, _]) (i := 4) rfl ta_46 rfl rfl rfl rfl ⟨rfl, rfl⟩) ?_) | (refine DOps.st 151 rfl rfl (op_load_m (cs' := [_, _, _, _, _, _, _]) (i := 5) rfl ta_46 rfl rfl rfl rfl ⟨rfl, rfl⟩) ?_) | (refine DOps.st 151 rfl rfl (op_load_m (cs' := [_, _, _, _, _, _, _]) (i := 6) rfl ta_46 rfl rfl rfl rfl ⟨rfl, rfl⟩) ?_) | (refine DOps.st 151 rfl rfl (op_load_m (cs' := [_, _, _, _, _, _, _]) (i := 7) rfl ta_46 rfl rfl rfl rfl ⟨rfl, rfl⟩) ?_) | (refine DOps.st 151 rfl rfl (op_load_m (cs' := [_, _, _, _, _, _, _]) (i := 8) rfl ta_46 rfl rfl rfl rfl ⟨rfl, rfl⟩) ?_) | (refine DOps.st 151 rfl rfl (op_load_m (cs' := [_, _, _, _, _, _, _]) (i := 9) rfl ta_46 rfl rfl rfl rfl ⟨rfl, rfl⟩) ?_) | (refine DOps.st 151 rfl rfl (op_load_c (cs' := [_, _, _, _, _, _, _]) rfl ta_46 rfl rfl rfl ⟨rfl, rfl⟩) ?_)
            refine DOps.st 152 rfl rfl (op_load_m (cs' := [_, _, _]) (i := 0) rfl ta_39 rfl rfl rfl rfl ⟨rfl, rfl⟩) ?_
            refine DOps.st 153 rfl rfl (op_move rfl rfl ⟨rfl, rfl⟩) ?_
            refine DOps.st 154 rfl rfl (op_load_c (cs' := [_, _, _, _, _, _]) rfl ta_26 rfl rfl rfl ⟨rfl, rfl⟩) ?_
            refine DOps.cm 155 rfl rfl (fun _ q => op_callb (xs := [.tmp 151, .tmp 152, .tmp 153, .tmp 154]) rfl rfl (hI2 ⟨xop, xa, xb, xn, xar, xfs, xcp⟩ (List.mem_of_getElem? hx)) (by first | exact Les.refl _ | (repeat' (first | exact Les.refl _ | refine Les.cons ?_ ?_ | exact Le.refl _ | exact Le.own _ _ _ | exact Le.nil _ | refine Le.agg ?_))) q) ?_; intro c155 h155
            refine DOps.cm 156 rfl rfl (fun _ q => op_notc rfl rfl q) ?_; intro c156 h156
            try replace h156 := nott h156 h155
            show AGo _ _ _ _ _ _ _
            refine go_code ?_
            rcases bool_split h156 with ⟨rfl, g156⟩ | ⟨rfl, g156⟩
            · refine c_cond_f rfl ?_
              refine c_skip ?_
              refine go_blk ?_
              refine go_code ?_
              refine c_region ?_
              refine AOps.st 145 rfl rfl rfl (op_move rfl rfl ?_)
              refine AOps.st 146 rfl rfl rfl (op_add rfl rfl rfl (IntWalk.i64_in _ (by omega)) ?_)
              refine AOps.st 8 rfl rfl rfl (op_assign rfl rfl ?_)
              refine AOps.nil ?_
              refine go_lp ?_
              exact ⟨j + 1, ⟨by omega, by omega, ⟨fun q => hv.1 (fun z hz => by rcases List.mem_cons.1 hz with rfl | hz; exact Classical.not_not.1 g156; exact q z hz), fun q z hz => hv.2 q z (List.mem_cons_of_mem _ hz)⟩⟩, by simp; omega, (by repeat' (first | exact SLe.nil _ | refine SLe.cons rfl ?_ ?_ | exact Le.refl _ | exact Le.own _ _ _ | exact Le.nil _)), (by first | exact MLe.none _ | exact MLe.refl _ | (repeat' (first | exact MLe.nil | exact MLe.refl _ | refine MLe.cons _ ?_ | refine MLe.drop _ ?_)))⟩
            · refine c_cond_t rfl ?_
              refine c_seq ?_
              refine c_region ?_
              refine AOps.st 2 rfl rfl rfl (op_assign rfl rfl ?_)
              refine AOps.nil ?_
              refine go_code ?_
              refine c_ret ?_
              exact out_tmp rfl rfl (Le.refl _) (by first | exact MLe.none _ | exact MLe.refl _ | (repeat' (first | exact MLe.nil | exact MLe.refl _ | refine MLe.cons _ ?_ | refine MLe.drop _ ?_))) ⟨⟨_, iff_f (fun q => g156 (hv.2 (hu.2 q.2.2).1.2.1 _ (by simp))), rfl⟩, rfl⟩
        · refine c_cond_t rfl ?_
          refine c_seq ?_
          refine c_region ?_
          refine AOps.st 2 rfl rfl rfl (op_assign rfl rfl ?_)
          refine AOps.nil ?_
          refine go_code ?_
          refine c_ret ?_
          exact out_tmp rfl rfl (Le.refl _) (by first | exact MLe.none _ | exact MLe.refl _ | (repeat' (first | exact MLe.nil | exact MLe.refl _ | refine MLe.cons _ ?_ | refine MLe.drop _ ?_))) ⟨⟨_, iff_f (fun q => g137 (hu.2 q.2.2).1.1), rfl⟩, rfl⟩
    · refine c_cond_t rfl ?_
      refine c_skip ?_
      refine go_code ?_
      refine c_seq ?_
      refine c_block ?_
      refine c_seq ?_
      obtain ⟨s, hxs⟩ := get_some (l := tx) (i := k) (by first | omega | (simp at *; omega))
      have hcs := strs_get hxs
      have hms := List.mem_of_getElem? hxs
      rw [drop_get hxs] at hu
      refine c_region ?_
      refine AOps.st 83 rfl rfl rfl (op_fieldAddr_c rfl tf_26_2 rfl rfl ?_)
      refine AOps.st 84 rfl rfl rfl (op_load_c1 rfl ta_24 rfl rfl ?_)
      refine AOps.st 85 rfl rfl rfl (op_move rfl rfl ?_)
      refine AOps.st 86 rfl rfl rfl (op_index rfl te_24 rfl (.seq _ _) rfl rfl (by assumption) ?_)
      first | (refine AOps.st 87 rfl rfl rfl (op_load_m1 (i := 0) rfl ta_9 rfl rfl rfl ?_)) | (refine AOps.st 87 rfl rfl rfl (op_load_m1 (i := 1) rfl ta_9 rfl rfl rfl ?_)) | (refine AOps.st 87 rfl rfl rfl (op_load_m1 (i := 2) rfl ta_9 rfl rfl rfl ?_)) | (refine AOps.st 87 rfl rfl rfl (op_load_m1 (i := 3) rfl ta_9 rfl rfl rfl ?_)) | (refine AOps.st 87 rfl rfl rfl (op_load_m1 (i := 4) rfl ta_9 rfl rfl rfl ?_)) | (refine AOps.st 87 rfl rfl rfl (op_load_m1 (i := 5) rfl ta_9 rfl rfl rfl ?_)) | (refine AOps.st 87 rfl rfl rfl (op_load_m1 (i := 6) rfl ta_9 rfl rfl rfl ?_)) | (refine AOps.st 87 rfl rfl rfl (op_load_m1 (i := 7) rfl ta_9 rfl rfl rfl ?_)) | (refine AOps.st 87 rfl rfl rfl (op_load_m1 (i := 8) rfl ta_9 rfl rfl rfl ?_)) | (refine AOps.st 87 rfl rfl rfl (op_load_m1 (i := 9) rfl ta_9 rfl rfl rfl ?_)) | (refine AOps.st 87 rfl rfl rfl (op_load_c1 rfl ta_9 rfl rfl ?_))
      refine AOps.st 88 rfl rfl rfl (op_len_str rfl tu_9 rfl ?_)
      refine AOps.st 89 rfl rfl rfl (op_move rfl rfl ?_)
      refine AOps.st 90 rfl rfl rfl (op_gtr rfl rfl rfl ?_); intro c90 h90
      refine AOps.nil ?_
      refine go_code ?_
      rcases bool_split h90 with ⟨rfl, g90⟩ | ⟨rfl, g90⟩
      · refine c_cond_f rfl ?_
        refine c_skip ?_
        refine go_blk ?_
        refine go_code ?_
        refine c_region ?_
        refine AOps.st 81 rfl rfl rfl (op_move rfl rfl ?_)
        refine AOps.st 82 rfl rfl rfl (op_add rfl rfl rfl (IntWalk.i64_in _ (by omega)) ?_)
        refine AOps.st 4 rfl rfl rfl (op_assign rfl rfl ?_)
        refine AOps.nil ?_
        refine go_lp ?_
        exact ⟨k + 1, ⟨by omega, ⟨fun q => hu.1 (fun z hz => by rcases List.mem_cons.1 hz with rfl | hz; omega; exact q z hz), fun q z hz => hu.2 q z (List.mem_cons_of_mem _ hz)⟩⟩, by simp; omega, (by repeat' (first | exact SLe.nil _ | refine SLe.cons rfl ?_ ?_ | exact Le.refl _ | exact Le.own _ _ _ | exact Le.nil _)), (by first | exact MLe.none _ | exact MLe.refl _ | (repeat' (first | exact MLe.nil | exact MLe.refl _ | refine MLe.cons _ ?_ | refine MLe.drop _ ?_)))⟩
      · refine c_cond_t rfl ?_
        refine c_seq ?_
        refine c_region ?_
        refine AOps.st 2 rfl rfl rfl (op_assign rfl rfl ?_)
        refine AOps.nil ?_
        refine go_code ?_
        refine c_ret ?_
        exact out_tmp rfl rfl (Le.refl _) (by first | exact MLe.none _ | exact MLe.refl _ | (repeat' (first | exact MLe.nil | exact MLe.refl _ | refine MLe.cons _ ?_ | refine MLe.drop _ ?_))) ⟨⟨_, iff_f (fun q => by have := hu.2 q.2.1 s (by simp); omega), rfl⟩, rfl⟩
  · refine c_cond_t rfl ?_
    refine c_seq ?_
    refine c_region ?_
    refine AOps.st 2 rfl rfl rfl (op_assign rfl rfl ?_)
    refine AOps.nil ?_
    refine go_code ?_
    refine c_ret ?_
    exact out_tmp rfl rfl (Le.refl _) (by first | exact MLe.none _ | exact MLe.refl _ | (repeat' (first | exact MLe.nil | exact MLe.refl _ | refine MLe.cons _ ?_ | refine MLe.drop _ ?_))) ⟨⟨_, iff_f (fun q => g75 q.1), rfl⟩, rfl⟩
end Go.Proofs.Ytadhakcmfkghbaa
