/- code.Right, cognateref29.Right -/
import Derived.Test.YtadhakcmfkghbaaB29t
namespace Go.Proofs.Ytadhakcmfkghbaa
open Go.RowKit
def endP (i : Is) : Prop := i.op = 6 ∨ i.op = 7 ∨ i.op = 14 ∨ i.op = 15
def FunsP (c : Cd) : Nat → List Cf → Prop
  | at0, [] => at0 = c.is.length
  | at0, f :: fs => ((1 ≤ f.len ∧ f.len ≤ c.is.length - at0 ∧ 1 ≤ f.sl ∧ f.sl ≤ 1048576 ∧ 0 ≤ f.cp ∧ f.cp ≤ 1048576) ∧ (∀ i ∈ (c.is.take (at0 + f.len.toNat)).drop at0, RefP c f at0 i) ∧ (∀ i, c.is[at0 + f.len.toNat - 1]? = some i → endP i)) ∧ FunsP c (at0 + f.len.toNat) fs
def HeadP (c : Cd) : Prop := 0 < c.fu.length ∧ c.fu.length ≤ 1048576 ∧ c.tx.length ≤ 1048576 ∧ c.is.length ≤ 1048576 ∧ (0 ≤ c.gl ∧ c.gl ≤ 1048576) ∧ (0 ≤ c.ys ∧ c.ys ≤ 1048576) ∧ (0 ≤ c.no ∧ c.no ≤ 1048576) ∧ (∀ f, c.fu[0]? = some f → f.cp = 0)
def RightP (c : Cd) : Prop := HeadP c ∧ (∀ s ∈ c.tx, s.size ≤ 1048576) ∧ FunsP c 0 c.fu
theorem Is.cellss_cut (l : List Is) (a b : Nat) : ((Is.cellss l).take b).drop a = Is.cellss ((l.take b).drop a) := by simp [Is.cellss, List.map_take, List.map_drop]
set_option maxHeartbeats 4000000 in
set_option maxRecDepth 100000 in
theorem Right_c (c : Cd) (hc : c.Lim) : BCall Try.prog 7 [.agg c.cells] (RightP c) := by
  have HS := Ev_S (fun s => s.size ≤ 1048576) 15 [] [] c.tx (fun x _ => short_c x)
  have HI := fun (f : Cf) (a b : Nat) (to : Int) (hto : to = a + f.len) (h1 : 1 ≤ f.sl) (h2 : f.sl ≤ 1048576) => Ev_Is (RefP c f a) 18 [.agg (ckCells c f a to prims)] [] ((c.is.take b).drop a) (fun x hx => by
    have hx' : x ∈ c.is := List.mem_of_mem_take (List.mem_of_mem_drop hx)
    have hl : x.Lim := by
      obtain ⟨is, fu, tx, gl, ys, no⟩ := c
      exact hc.1.2 x hx'
    have := ins_c c f a to prims x h1 h2 hl (by rw [prims_len]; omega)
    subst hto
    exact this.bal (InsP_iff c f a x))
  have hgf : ∀ f, c.is.length = c.is.length ∧ (f ∈ c.fu → f.Lim) := fun f => by
    obtain ⟨is, fu, tx, gl, ys, no⟩ := c
    exact ⟨rfl, hc.2.1.2 f⟩
  have hR : ∀ at0 f fs, FunsP c at0 (f :: fs) = (((1 ≤ f.len ∧ f.len ≤ c.is.length - at0 ∧ 1 ≤ f.sl ∧ f.sl ≤ 1048576 ∧ 0 ≤ f.cp ∧ f.cp ≤ 1048576) ∧ (∀ i ∈ (c.is.take (at0 + f.len.toNat)).drop at0, RefP c f at0 i) ∧ (∀ i, c.is[at0 + f.len.toNat - 1]? = some i → endP i)) ∧ FunsP c (at0 + f.len.toNat) fs) := fun _ _ _ => rfl
  have hN : ∀ at0, FunsP c at0 [] = (at0 = c.is.length) := fun _ => rfl
  unfold RightP HeadP
  generalize RefP c = RP at *
  generalize FunsP c = FP at *
  obtain ⟨is, fu, tx, gl, ys, no⟩ := c
  simp only [Cd.is, Cd.fu, Cd.tx, Cd.gl, Cd.ys, Cd.no] at *
  have hl1 := Is.cellss_len is
  have hl2 := Cf.cellss_len fu
  have hl3 := strs_len tx
  generalize hSS : (∀ s ∈ tx, s.size ≤ 1048576) = pS at *
  obtain ⟨⟨wl, wsl, wcp⟩, hw⟩ : ∃ p : Cf, 0 < fu.length → fu[0]? = some p := by
    by_cases q : 0 < fu.length
    · exact ⟨fu[0], fun _ => List.getElem?_eq_getElem q⟩
    · exact ⟨⟨0, 0, 0⟩, fun h => absurd h q⟩
  have hw0 : 0 < fu.length → ((∀ f, fu[0]? = some f → f.cp = 0) ↔ wcp = 0) := fun q => by
    rw [hw q]
    exact ⟨fun z => z _ rfl, fun z f e => by cases e; exact z⟩
  generalize (∀ f, fu[0]? = some f → f.cp = 0) = pC at *
  refine ACall.enter Try.func7 rfl (by kernel_rfl) rfl (Nat.le_of_ble_eq_true rfl) ?_
  refine c_start ?_
  refine c_lena (t := 0) (j := 0) rfl rfl (.seq _ _) (fun hmax => ?_)
  refine c_lena (t := 0) (j := 1) rfl rfl (.seq _ _) (fun hmax2 => ?_)
  refine c_lena (t := 0) (j := 2) rfl rfl (.seq _ _) (fun hmax3 => ?_)
  refine c_seq ?_
  refine c_region ?_
  refine AOps.st 1 rfl rfl rfl (op_boxc (cs' := [_, _, _, _, _, _]) rfl rfl rfl rfl ?_)
  refine AOps.st 2 rfl rfl rfl (op_assign rfl rfl ?_)
  refine AOps.nil ?_
  refine go_code ?_
  refine c_seq ?_
  refine c_seq ?_
  refine c_bool 55 (¬ (0 < fu.length ∧ fu.length ≤ 1048576 ∧ tx.length ≤ 1048576 ∧ is.length ≤ 1048576 ∧ (0 ≤ gl ∧ gl ≤ 1048576) ∧ (0 ≤ ys ∧ ys ≤ 1048576) ∧ (0 ≤ no ∧ no ≤ 1048576) ∧ pC)) ?_ _ _ rfl ?_
  · skip
    refine AOps.st 8 rfl rfl rfl (op_fieldAddr_c rfl tf_26_1 rfl rfl ?_)
    refine AOps.st 9 rfl rfl rfl (op_load_c1 rfl ta_23 rfl rfl ?_)
    refine AOps.st 10 rfl rfl rfl (op_len rfl tu_23 rfl (.seq _ _) (fun n10 => ?_))
    refine AOps.st 11 rfl rfl rfl (op_eql rfl rfl rfl ?_); intro c11 h11
    refine AOps.st 12 rfl rfl rfl (op_move rfl rfl ?_)
    rcases bool_split h11 with ⟨rfl, g11⟩ | ⟨rfl, g11⟩
    · skip
      refine AOps.gt 13 rfl rfl rfl rfl rfl (op_fieldAddr_c rfl tf_26_1 rfl rfl ?_)
      refine AOps.gt 14 rfl rfl rfl rfl rfl (op_load_c1 rfl ta_23 rfl rfl ?_)
      refine AOps.gt 15 rfl rfl rfl rfl rfl (op_len rfl tu_23 rfl (.seq _ _) (fun n15 => ?_))
      refine AOps.gt 16 rfl rfl rfl rfl rfl (op_gtr rfl rfl rfl ?_); intro c16 h16
      refine AOps.st 17 rfl rfl rfl (op_pick rfl rfl rfl ?_)
      refine AOps.st 18 rfl rfl rfl (op_move rfl rfl ?_)
      rcases bool_split h16 with ⟨rfl, g16⟩ | ⟨rfl, g16⟩
      · skip
        refine AOps.gt 19 rfl rfl rfl rfl rfl (op_fieldAddr_c rfl tf_26_2 rfl rfl ?_)
        refine AOps.gt 20 rfl rfl rfl rfl rfl (op_load_c1 rfl ta_24 rfl rfl ?_)
        refine AOps.gt 21 rfl rfl rfl rfl rfl (op_len rfl tu_24 rfl (.seq _ _) (fun n21 => ?_))
        refine AOps.gt 22 rfl rfl rfl rfl rfl (op_gtr rfl rfl rfl ?_); intro c22 h22
        refine AOps.st 23 rfl rfl rfl (op_pick rfl rfl rfl ?_)
        refine AOps.st 24 rfl rfl rfl (op_move rfl rfl ?_)
        rcases bool_split h22 with ⟨rfl, g22⟩ | ⟨rfl, g22⟩
        · skip
          refine AOps.gt 25 rfl rfl rfl rfl rfl (op_fieldAddr_c rfl tf_26_0 rfl rfl ?_)
          refine AOps.gt 26 rfl rfl rfl rfl rfl (op_load_c1 rfl ta_22 rfl rfl ?_)
          refine AOps.gt 27 rfl rfl rfl rfl rfl (op_len rfl tu_22 rfl (.seq _ _) (fun n27 => ?_))
          refine AOps.gt 28 rfl rfl rfl rfl rfl (op_gtr rfl rfl rfl ?_); intro c28 h28
          refine AOps.st 29 rfl rfl rfl (op_pick rfl rfl rfl ?_)
          refine AOps.st 30 rfl rfl rfl (op_move rfl rfl ?_)
          rcases bool_split h28 with ⟨rfl, g28⟩ | ⟨rfl, g28⟩
          · skip
            refine AOps.gt 31 rfl rfl rfl rfl rfl (op_fieldAddr_c rfl tf_26_3 rfl rfl ?_)
            refine AOps.gt 32 rfl rfl rfl rfl rfl (op_load_c1 rfl ta_3 rfl rfl ?_)
            refine AOps.gt 33 rfl rfl rfl rfl rfl (op_callb (xs := [.tmp 32, .const (.int .i64 1048577)]) rfl rfl (within_c gl 1048577) (by first | exact Les.refl _ | (repeat' (first | exact Les.refl _ | refine Les.cons ?_ ?_ | exact Le.refl _ | exact Le.own _ _ _ | exact Le.nil _ | refine Le.agg ?_))) ?_); intro c33 h33
            refine AOps.gt 34 rfl rfl rfl rfl rfl (op_notc rfl rfl ?_); intro c34 h34
            try replace h34 := nott h34 h33
            refine AOps.st 35 rfl rfl rfl (op_pick rfl rfl rfl ?_)
            refine AOps.st 36 rfl rfl rfl (op_move rfl rfl ?_)
            rcases bool_split h34 with ⟨rfl, g34⟩ | ⟨rfl, g34⟩
            · skip
              refine AOps.gt 37 rfl rfl rfl rfl rfl (op_fieldAddr_c rfl tf_26_4 rfl rfl ?_)
              refine AOps.gt 38 rfl rfl rfl rfl rfl (op_load_c1 rfl ta_3 rfl rfl ?_)
              refine AOps.gt 39 rfl rfl rfl rfl rfl (op_callb (xs := [.tmp 38, .const (.int .i64 1048577)]) rfl rfl (within_c ys 1048577) (by first | exact Les.refl _ | (repeat' (first | exact Les.refl _ | refine Les.cons ?_ ?_ | exact Le.refl _ | exact Le.own _ _ _ | exact Le.nil _ | refine Le.agg ?_))) ?_); intro c39 h39
              refine AOps.gt 40 rfl rfl rfl rfl rfl (op_notc rfl rfl ?_); intro c40 h40
              try replace h40 := nott h40 h39
              refine AOps.st 41 rfl rfl rfl (op_pick rfl rfl rfl ?_)
              refine AOps.st 42 rfl rfl rfl (op_move rfl rfl ?_)
              rcases bool_split h40 with ⟨rfl, g40⟩ | ⟨rfl, g40⟩
              · skip
                refine AOps.gt 43 rfl rfl rfl rfl rfl (op_fieldAddr_c rfl tf_26_5 rfl rfl ?_)
                refine AOps.gt 44 rfl rfl rfl rfl rfl (op_load_c1 rfl ta_3 rfl rfl ?_)
                refine AOps.gt 45 rfl rfl rfl rfl rfl (op_callb (xs := [.tmp 44, .const (.int .i64 1048577)]) rfl rfl (within_c no 1048577) (by first | exact Les.refl _ | (repeat' (first | exact Les.refl _ | refine Les.cons ?_ ?_ | exact Le.refl _ | exact Le.own _ _ _ | exact Le.nil _ | refine Le.agg ?_))) ?_); intro c45 h45
                refine AOps.gt 46 rfl rfl rfl rfl rfl (op_notc rfl rfl ?_); intro c46 h46
                try replace h46 := nott h46 h45
                refine AOps.st 47 rfl rfl rfl (op_pick rfl rfl rfl ?_)
                refine AOps.st 48 rfl rfl rfl (op_move rfl rfl ?_)
                rcases bool_split h46 with ⟨rfl, g46⟩ | ⟨rfl, g46⟩
                · skip
                  refine AOps.gt 49 rfl rfl rfl rfl rfl (op_fieldAddr_c rfl tf_26_1 rfl rfl ?_)
                  refine AOps.gt 50 rfl rfl rfl rfl rfl (op_load_c1 rfl ta_23 rfl rfl ?_)
                  refine AOps.gt 51 rfl rfl rfl rfl rfl (op_index rfl te_23 rfl (.seq _ _) rfl rfl (Cf.cellss_get (hw (by omega))) ?_)
                  first | (refine AOps.gt 52 rfl rfl rfl rfl rfl (op_fieldAddr_m rfl tf_39_2 rfl ?_)) | (refine AOps.gt 52 rfl rfl rfl rfl rfl (op_fieldAddr_c rfl tf_39_2 rfl rfl ?_))
                  first | (refine AOps.gt 53 rfl rfl rfl rfl rfl (op_load_m1 (i := 0) rfl ta_3 rfl rfl rfl ?_)) | (refine AOps.gt 53 rfl rfl rfl rfl rfl (op_load_m1 (i := 1) rfl ta_3 rfl rfl rfl ?_)) | (refine AOps.gt 53 rfl rfl rfl rfl rfl (op_load_m1 (i := 2) rfl ta_3 rfl rfl rfl ?_)) | (refine AOps.gt 53 rfl rfl rfl rfl rfl (op_load_m1 (i := 3) rfl ta_3 rfl rfl rfl ?_)) | (refine AOps.gt 53 rfl rfl rfl rfl rfl (op_load_m1 (i := 4) rfl ta_3 rfl rfl rfl ?_)) | (refine AOps.gt 53 rfl rfl rfl rfl rfl (op_load_m1 (i := 5) rfl ta_3 rfl rfl rfl ?_)) | (refine AOps.gt 53 rfl rfl rfl rfl rfl (op_load_m1 (i := 6) rfl ta_3 rfl rfl rfl ?_)) | (refine AOps.gt 53 rfl rfl rfl rfl rfl (op_load_m1 (i := 7) rfl ta_3 rfl rfl rfl ?_)) | (refine AOps.gt 53 rfl rfl rfl rfl rfl (op_load_m1 (i := 8) rfl ta_3 rfl rfl rfl ?_)) | (refine AOps.gt 53 rfl rfl rfl rfl rfl (op_load_m1 (i := 9) rfl ta_3 rfl rfl rfl ?_)) | (refine AOps.gt 53 rfl rfl rfl rfl rfl (op_load_c1 rfl ta_3 rfl rfl ?_))
                  refine AOps.gt 54 rfl rfl rfl rfl rfl (op_neq rfl rfl rfl ?_); intro c54 h54
                  refine AOps.st 55 rfl rfl rfl (op_pick rfl rfl rfl ?_)
                  refine AOps.nil ?_
                  refine BoolQ.mk rfl ?_ (by repeat' (first | exact SLe.wo _ _ | exact SLe.refl _ | refine SLe.fresh rfl ?_)) (by first | exact MLe.none _ | exact MLe.refl _ | (repeat' (first | exact MLe.nil | exact MLe.refl _ | refine MLe.cons _ ?_ | refine MLe.drop _ ?_)))
                  first | (simp only [true_iff]; omega) | (rw [h54, hw0 (by omega)]; omega)
                · skip
                  refine AOps.gf 49 rfl rfl rfl rfl rfl ?_
                  refine AOps.gf 50 rfl rfl rfl rfl rfl ?_
                  refine AOps.gf 51 rfl rfl rfl rfl rfl ?_
                  refine AOps.gf 52 rfl rfl rfl rfl rfl ?_
                  refine AOps.gf 53 rfl rfl rfl rfl rfl ?_
                  refine AOps.gf 54 rfl rfl rfl rfl rfl ?_
                  refine AOps.st 55 rfl rfl rfl (op_pick rfl rfl rfl ?_)
                  refine AOps.nil ?_
                  refine BoolQ.mk rfl ?_ (by repeat' (first | exact SLe.wo _ _ | exact SLe.refl _ | refine SLe.fresh rfl ?_)) (by first | exact MLe.none _ | exact MLe.refl _ | (repeat' (first | exact MLe.nil | exact MLe.refl _ | refine MLe.cons _ ?_ | refine MLe.drop _ ?_)))
                  simp only [true_iff]; omega
              · skip
                refine AOps.gf 43 rfl rfl rfl rfl rfl ?_
                refine AOps.gf 44 rfl rfl rfl rfl rfl ?_
                refine AOps.gf 45 rfl rfl rfl rfl rfl ?_
                refine AOps.gf 46 rfl rfl rfl rfl rfl ?_
                refine AOps.st 47 rfl rfl rfl (op_pick rfl rfl rfl ?_)
                refine AOps.st 48 rfl rfl rfl (op_move rfl rfl ?_)
                refine AOps.gf 49 rfl rfl rfl rfl rfl ?_
                refine AOps.gf 50 rfl rfl rfl rfl rfl ?_
                refine AOps.gf 51 rfl rfl rfl rfl rfl ?_
                refine AOps.gf 52 rfl rfl rfl rfl rfl ?_
                refine AOps.gf 53 rfl rfl rfl rfl rfl ?_
                refine AOps.gf 54 rfl rfl rfl rfl rfl ?_
                refine AOps.st 55 rfl rfl rfl (op_pick rfl rfl rfl ?_)
                refine AOps.nil ?_
                refine BoolQ.mk rfl ?_ (by repeat' (first | exact SLe.wo _ _ | exact SLe.refl _ | refine SLe.fresh rfl ?_)) (by first | exact MLe.none _ | exact MLe.refl _ | (repeat' (first | exact MLe.nil | exact MLe.refl _ | refine MLe.cons _ ?_ | refine MLe.drop _ ?_)))
                simp only [true_iff]; omega
            · skip
              refine AOps.gf 37 rfl rfl rfl rfl rfl ?_
              refine AOps.gf 38 rfl rfl rfl rfl rfl ?_
              refine AOps.gf 39 rfl rfl rfl rfl rfl ?_
              refine AOps.gf 40 rfl rfl rfl rfl rfl ?_
              refine AOps.st 41 rfl rfl rfl (op_pick rfl rfl rfl ?_)
              refine AOps.st 42 rfl rfl rfl (op_move rfl rfl ?_)
              refine AOps.gf 43 rfl rfl rfl rfl rfl ?_
              refine AOps.gf 44 rfl rfl rfl rfl rfl ?_
              refine AOps.gf 45 rfl rfl rfl rfl rfl ?_
              refine AOps.gf 46 rfl rfl rfl rfl rfl ?_
              refine AOps.st 47 rfl rfl rfl (op_pick rfl rfl rfl ?_)
              refine AOps.st 48 rfl rfl rfl (op_move rfl rfl ?_)
              refine AOps.gf 49 rfl rfl rfl rfl rfl ?_
              refine AOps.gf 50 rfl rfl rfl rfl rfl ?_
              refine AOps.gf 51 rfl rfl rfl rfl rfl ?_
              refine AOps.gf 52 rfl rfl rfl rfl rfl ?_
              refine AOps.gf 53 rfl rfl rfl rfl rfl ?_
              refine AOps.gf 54 rfl rfl rfl rfl rfl ?_
              refine AOps.st 55 rfl rfl rfl (op_pick rfl rfl rfl ?_)
              refine AOps.nil ?_
              refine BoolQ.mk rfl ?_ (by repeat' (first | exact SLe.wo _ _ | exact SLe.refl _ | refine SLe.fresh rfl ?_)) (by first | exact MLe.none _ | exact MLe.refl _ | (repeat' (first | exact MLe.nil | exact MLe.refl _ | refine MLe.cons _ ?_ | refine MLe.drop _ ?_)))
              simp only [true_iff]; omega
          · skip
            refine AOps.gf 31 rfl rfl rfl rfl rfl ?_
            refine AOps.gf 32 rfl rfl rfl rfl rfl ?_
            refine AOps.gf 33 rfl rfl rfl rfl rfl ?_
            refine AOps.gf 34 rfl rfl rfl rfl rfl ?_
            refine AOps.st 35 rfl rfl rfl (op_pick rfl rfl rfl ?_)
            refine AOps.st 36 rfl rfl rfl (op_move rfl rfl ?_)
            refine AOps.gf 37 rfl rfl rfl rfl rfl ?_
            refine AOps.gf 38 rfl rfl rfl rfl rfl ?_
            refine AOps.gf 39 rfl rfl rfl rfl rfl ?_
            refine AOps.gf 40 rfl rfl rfl rfl rfl ?_
            refine AOps.st 41 rfl rfl rfl (op_pick rfl rfl rfl ?_)
            refine AOps.st 42 rfl rfl rfl (op_move rfl rfl ?_)
            refine AOps.gf 43 rfl rfl rfl rfl rfl ?_
            refine AOps.gf 44 rfl rfl rfl rfl rfl ?_
            refine AOps.gf 45 rfl rfl rfl rfl rfl ?_
            refine AOps.gf 46 rfl rfl rfl rfl rfl ?_
            refine AOps.st 47 rfl rfl rfl (op_pick rfl rfl rfl ?_)
            refine AOps.st 48 rfl rfl rfl (op_move rfl rfl ?_)
            refine AOps.gf 49 rfl rfl rfl rfl rfl ?_
            refine AOps.gf 50 rfl rfl rfl rfl rfl ?_
            refine AOps.gf 51 rfl rfl rfl rfl rfl ?_
            refine AOps.gf 52 rfl rfl rfl rfl rfl ?_
            refine AOps.gf 53 rfl rfl rfl rfl rfl ?_
            refine AOps.gf 54 rfl rfl rfl rfl rfl ?_
            refine AOps.st 55 rfl rfl rfl (op_pick rfl rfl rfl ?_)
            refine AOps.nil ?_
            refine BoolQ.mk rfl ?_ (by repeat' (first | exact SLe.wo _ _ | exact SLe.refl _ | refine SLe.fresh rfl ?_)) (by first | exact MLe.none _ | exact MLe.refl _ | (repeat' (first | exact MLe.nil | exact MLe.refl _ | refine MLe.cons _ ?_ | refine MLe.drop _ ?_)))
            simp only [true_iff]; omega
        · skip
          refine AOps.gf 25 rfl rfl rfl rfl rfl ?_
          refine AOps.gf 26 rfl rfl rfl rfl rfl ?_
          refine AOps.gf 27 rfl rfl rfl rfl rfl ?_
          refine AOps.gf 28 rfl rfl rfl rfl rfl ?_
          refine AOps.st 29 rfl rfl rfl (op_pick rfl rfl rfl ?_)
          refine AOps.st 30 rfl rfl rfl (op_move rfl rfl ?_)
          refine AOps.gf 31 rfl rfl rfl rfl rfl ?_
          refine AOps.gf 32 rfl rfl rfl rfl rfl ?_
          refine AOps.gf 33 rfl rfl rfl rfl rfl ?_
          refine AOps.gf 34 rfl rfl rfl rfl rfl ?_
          refine AOps.st 35 rfl rfl rfl (op_pick rfl rfl rfl ?_)
          refine AOps.st 36 rfl rfl rfl (op_move rfl rfl ?_)
          refine AOps.gf 37 rfl rfl rfl rfl rfl ?_
          refine AOps.gf 38 rfl rfl rfl rfl rfl ?_
          refine AOps.gf 39 rfl rfl rfl rfl rfl ?_
          refine AOps.gf 40 rfl rfl rfl rfl rfl ?_
          refine AOps.st 41 rfl rfl rfl (op_pick rfl rfl rfl ?_)
          refine AOps.st 42 rfl rfl rfl (op_move rfl rfl ?_)
          refine AOps.gf 43 rfl rfl rfl rfl rfl ?_
          refine AOps.gf 44 rfl rfl rfl rfl rfl ?_
          refine AOps.gf 45 rfl rfl rfl rfl rfl ?_
          refine AOps.gf 46 rfl rfl rfl rfl rfl ?_
          refine AOps.st 47 rfl rfl rfl (op_pick rfl rfl rfl ?_)
          refine AOps.st 48 rfl rfl rfl (op_move rfl rfl ?_)
          refine AOps.gf 49 rfl rfl rfl rfl rfl ?_
          refine AOps.gf 50 rfl rfl rfl rfl rfl ?_
          refine AOps.gf 51 rfl rfl rfl rfl rfl ?_
          refine AOps.gf 52 rfl rfl rfl rfl rfl ?_
          refine AOps.gf 53 rfl rfl rfl rfl rfl ?_
          refine AOps.gf 54 rfl rfl rfl rfl rfl ?_
          refine AOps.st 55 rfl rfl rfl (op_pick rfl rfl rfl ?_)
          refine AOps.nil ?_
          refine BoolQ.mk rfl ?_ (by repeat' (first | exact SLe.wo _ _ | exact SLe.refl _ | refine SLe.fresh rfl ?_)) (by first | exact MLe.none _ | exact MLe.refl _ | (repeat' (first | exact MLe.nil | exact MLe.refl _ | refine MLe.cons _ ?_ | refine MLe.drop _ ?_)))
          simp only [true_iff]; omega
      · skip
        refine AOps.gf 19 rfl rfl rfl rfl rfl ?_
        refine AOps.gf 20 rfl rfl rfl rfl rfl ?_
        refine AOps.gf 21 rfl rfl rfl rfl rfl ?_
        refine AOps.gf 22 rfl rfl rfl rfl rfl ?_
        refine AOps.st 23 rfl rfl rfl (op_pick rfl rfl rfl ?_)
        refine AOps.st 24 rfl rfl rfl (op_move rfl rfl ?_)
        refine AOps.gf 25 rfl rfl rfl rfl rfl ?_
        refine AOps.gf 26 rfl rfl rfl rfl rfl ?_
        refine AOps.gf 27 rfl rfl rfl rfl rfl ?_
        refine AOps.gf 28 rfl rfl rfl rfl rfl ?_
        refine AOps.st 29 rfl rfl rfl (op_pick rfl rfl rfl ?_)
        refine AOps.st 30 rfl rfl rfl (op_move rfl rfl ?_)
        refine AOps.gf 31 rfl rfl rfl rfl rfl ?_
        refine AOps.gf 32 rfl rfl rfl rfl rfl ?_
        refine AOps.gf 33 rfl rfl rfl rfl rfl ?_
        refine AOps.gf 34 rfl rfl rfl rfl rfl ?_
        refine AOps.st 35 rfl rfl rfl (op_pick rfl rfl rfl ?_)
        refine AOps.st 36 rfl rfl rfl (op_move rfl rfl ?_)
        refine AOps.gf 37 rfl rfl rfl rfl rfl ?_
        refine AOps.gf 38 rfl rfl rfl rfl rfl ?_
        refine AOps.gf 39 rfl rfl rfl rfl rfl ?_
        refine AOps.gf 40 rfl rfl rfl rfl rfl ?_
        refine AOps.st 41 rfl rfl rfl (op_pick rfl rfl rfl ?_)
        refine AOps.st 42 rfl rfl rfl (op_move rfl rfl ?_)
        refine AOps.gf 43 rfl rfl rfl rfl rfl ?_
        refine AOps.gf 44 rfl rfl rfl rfl rfl ?_
        refine AOps.gf 45 rfl rfl rfl rfl rfl ?_
        refine AOps.gf 46 rfl rfl rfl rfl rfl ?_
        refine AOps.st 47 rfl rfl rfl (op_pick rfl rfl rfl ?_)
        refine AOps.st 48 rfl rfl rfl (op_move rfl rfl ?_)
        refine AOps.gf 49 rfl rfl rfl rfl rfl ?_
        refine AOps.gf 50 rfl rfl rfl rfl rfl ?_
        refine AOps.gf 51 rfl rfl rfl rfl rfl ?_
        refine AOps.gf 52 rfl rfl rfl rfl rfl ?_
        refine AOps.gf 53 rfl rfl rfl rfl rfl ?_
        refine AOps.gf 54 rfl rfl rfl rfl rfl ?_
        refine AOps.st 55 rfl rfl rfl (op_pick rfl rfl rfl ?_)
        refine AOps.nil ?_
        refine BoolQ.mk rfl ?_ (by repeat' (first | exact SLe.wo _ _ | exact SLe.refl _ | refine SLe.fresh rfl ?_)) (by first | exact MLe.none _ | exact MLe.refl _ | (repeat' (first | exact MLe.nil | exact MLe.refl _ | refine MLe.cons _ ?_ | refine MLe.drop _ ?_)))
        simp only [true_iff]; omega
    · skip
      refine AOps.gf 13 rfl rfl rfl rfl rfl ?_
      refine AOps.gf 14 rfl rfl rfl rfl rfl ?_
      refine AOps.gf 15 rfl rfl rfl rfl rfl ?_
      refine AOps.gf 16 rfl rfl rfl rfl rfl ?_
      refine AOps.st 17 rfl rfl rfl (op_pick rfl rfl rfl ?_)
      refine AOps.st 18 rfl rfl rfl (op_move rfl rfl ?_)
      refine AOps.gf 19 rfl rfl rfl rfl rfl ?_
      refine AOps.gf 20 rfl rfl rfl rfl rfl ?_
      refine AOps.gf 21 rfl rfl rfl rfl rfl ?_
      refine AOps.gf 22 rfl rfl rfl rfl rfl ?_
      refine AOps.st 23 rfl rfl rfl (op_pick rfl rfl rfl ?_)
      refine AOps.st 24 rfl rfl rfl (op_move rfl rfl ?_)
      refine AOps.gf 25 rfl rfl rfl rfl rfl ?_
      refine AOps.gf 26 rfl rfl rfl rfl rfl ?_
      refine AOps.gf 27 rfl rfl rfl rfl rfl ?_
      refine AOps.gf 28 rfl rfl rfl rfl rfl ?_
      refine AOps.st 29 rfl rfl rfl (op_pick rfl rfl rfl ?_)
      refine AOps.st 30 rfl rfl rfl (op_move rfl rfl ?_)
      refine AOps.gf 31 rfl rfl rfl rfl rfl ?_
      refine AOps.gf 32 rfl rfl rfl rfl rfl ?_
      refine AOps.gf 33 rfl rfl rfl rfl rfl ?_
      refine AOps.gf 34 rfl rfl rfl rfl rfl ?_
      refine AOps.st 35 rfl rfl rfl (op_pick rfl rfl rfl ?_)
      refine AOps.st 36 rfl rfl rfl (op_move rfl rfl ?_)
      refine AOps.gf 37 rfl rfl rfl rfl rfl ?_
      refine AOps.gf 38 rfl rfl rfl rfl rfl ?_
      refine AOps.gf 39 rfl rfl rfl rfl rfl ?_
      refine AOps.gf 40 rfl rfl rfl rfl rfl ?_
      refine AOps.st 41 rfl rfl rfl (op_pick rfl rfl rfl ?_)
      refine AOps.st 42 rfl rfl rfl (op_move rfl rfl ?_)
      refine AOps.gf 43 rfl rfl rfl rfl rfl ?_
      refine AOps.gf 44 rfl rfl rfl rfl rfl ?_
      refine AOps.gf 45 rfl rfl rfl rfl rfl ?_
      refine AOps.gf 46 rfl rfl rfl rfl rfl ?_
      refine AOps.st 47 rfl rfl rfl (op_pick rfl rfl rfl ?_)
      refine AOps.st 48 rfl rfl rfl (op_move rfl rfl ?_)
      refine AOps.gf 49 rfl rfl rfl rfl rfl ?_
      refine AOps.gf 50 rfl rfl rfl rfl rfl ?_
      refine AOps.gf 51 rfl rfl rfl rfl rfl ?_
      refine AOps.gf 52 rfl rfl rfl rfl rfl ?_
      refine AOps.gf 53 rfl rfl rfl rfl rfl ?_
      refine AOps.gf 54 rfl rfl rfl rfl rfl ?_
      refine AOps.st 55 rfl rfl rfl (op_pick rfl rfl rfl ?_)
      refine AOps.nil ?_
      refine BoolQ.mk rfl ?_ (by repeat' (first | exact SLe.wo _ _ | exact SLe.refl _ | refine SLe.fresh rfl ?_)) (by first | exact MLe.none _ | exact MLe.refl _ | (repeat' (first | exact MLe.nil | exact MLe.refl _ | refine MLe.cons _ ?_ | refine MLe.drop _ ?_)))
      simp only [true_iff]; omega
  intro c55 h55
  refine go_code ?_
  rcases bool_split h55 with ⟨rfl, g55⟩ | ⟨rfl, g55⟩
  · refine c_cond_f rfl ?_
    refine c_skip ?_
    refine go_code ?_
    refine c_seq ?_
    refine c_seq ?_
    have e1 := Classical.not_not.1 g55
    refine c_region ?_
    refine AOps.st 56 rfl rfl rfl (op_fieldAddr_c rfl tf_26_2 rfl rfl ?_)
    refine AOps.st 57 rfl rfl rfl (op_load_c1 rfl ta_24 rfl rfl ?_)
    refine AOps.st 58 rfl rfl rfl (op_callb (xs := [.tmp 57, .func 15]) rfl rfl (HS) (by first | exact Les.refl _ | (repeat' (first | exact Les.refl _ | refine Les.cons ?_ ?_ | exact Le.refl _ | exact Le.own _ _ _ | exact Le.nil _ | refine Le.agg ?_))) ?_); intro c58 h58
    refine AOps.st 59 rfl rfl rfl (op_notc rfl rfl ?_); intro c59 h59
    try replace h59 := nott h59 h58
    refine AOps.nil ?_
    refine go_code ?_
    rcases bool_split h59 with ⟨rfl, g59⟩ | ⟨rfl, g59⟩
    · refine c_cond_f rfl ?_
      refine c_skip ?_
      refine go_code ?_
      refine c_seq ?_
      have e2 := Classical.not_not.1 g59
      refine c_region ?_
      refine AOps.st 60 rfl rfl rfl (op_callp (xs := []) rfl rfl (Prims_c) (by first | exact Les.refl _ | (repeat' (first | exact Les.refl _ | refine Les.cons ?_ ?_ | exact Le.refl _ | exact Le.own _ _ _ | exact Le.nil _ | refine Le.agg ?_))) ?_)
      refine AOps.st 3 rfl rfl rfl (op_assign rfl rfl ?_)
      refine AOps.nil ?_
      refine go_code ?_
      refine c_seq ?_
      refine c_region ?_
      refine AOps.st 4 rfl rfl rfl (op_assign rfl rfl ?_)
      refine AOps.nil ?_
      refine go_code ?_
      refine c_seq ?_
      refine c_seq ?_
      refine c_region ?_
      refine AOps.st 61 rfl rfl rfl (op_fieldAddr_c rfl tf_26_1 rfl rfl ?_)
      refine AOps.st 62 rfl rfl rfl (op_load_c1 rfl ta_23 rfl rfl ?_)
      refine AOps.st 63 rfl rfl rfl (op_len rfl tu_23 rfl (.seq _ _) (fun n63 => ?_))
      refine AOps.st 64 rfl rfl rfl (op_move rfl rfl ?_)
      refine AOps.nil ?_
      refine go_code ?_
      refine c_block ?_
      apply c_loopkm [0, 2, 4, 5, 6, 7, 8, 9, 10, 11, 12, 13, 14, 15, 16, 17, 18, 19, 20, 21, 22, 23, 24, 25, 26, 27, 28, 29, 30, 31, 32, 33, 34, 35, 36, 37, 38, 39, 40, 41, 42, 43, 44, 45, 46, 47, 48, 49, 50, 51, 52, 53, 54, 55, 56, 57, 58, 59, 60, 61, 64, 65, 66, 67, 68, 69, 70, 71, 72, 73, 74, 75, 76, 77, 78, 79, 80, 81, 82, 83, 84, 85, 86, 87, 88, 89, 90, 91, 92, 93, 94, 95, 96, 97, 98, 99, 100, 101, 102, 103, 104, 105, 106, 107, 108, 109, 110, 111, 112, 113, 114, 115, 116, 117, 118, 119, 120, 121, 122, 123, 124, 125, 126, 127, 128, 129, 130, 131, 132, 133, 134, 135] (σ := Nat × Nat) (fun zz => match zz with | (k, at0) => [(64, .val (.int .i64 k)), (4, .val (.int .i64 at0))]) (fun zz => match zz with | (k, at0) => k ≤ fu.length ∧ at0 ≤ is.length ∧ (FP at0 (fu.drop k) ↔ FP 0 fu)) (fun zz => match zz with | (k, at0) => fu.length - k) ((0, 0))
      · repeat' (first | exact Drops.nil | apply Drops.keep rfl | apply Drops.skip rfl)
      · exact ⟨by omega, by omega, Iff.rfl⟩
      · exact (by repeat' (first | exact SLe.nil _ | refine SLe.cons rfl ?_ ?_ | exact Le.refl _ | exact Le.own _ _ _ | exact Le.nil _))
      rintro ⟨k, at0⟩ hI
      try dsimp only [List.cons_append, List.nil_append] at hI ⊢
      obtain ⟨hk, hat, hu⟩ := hI
      refine c_seq ?_
      refine c_region ?_
      refine AOps.st 65 rfl rfl rfl (op_lss rfl rfl rfl ?_); intro c65 h65
      refine AOps.nil ?_
      refine go_code ?_
      refine c_seq ?_
      rcases bool_split h65 with ⟨rfl, g65⟩ | ⟨rfl, g65⟩
      · refine c_cond_f rfl ?_
        refine c_exit ?_
        refine x_code ?_
        refine x_lp ?_
        refine x_here ?_
        refine go_code ?_
        refine c_seq ?_
        rw [List.drop_eq_nil_of_le (by omega), hN] at hu
        refine c_region ?_
        refine AOps.st 136 rfl rfl rfl (op_move rfl rfl ?_)
        refine AOps.st 137 rfl rfl rfl (op_fieldAddr_c rfl tf_26_0 rfl rfl ?_)
        refine AOps.st 138 rfl rfl rfl (op_load_c1 rfl ta_22 rfl rfl ?_)
        refine AOps.st 139 rfl rfl rfl (op_len rfl tu_22 rfl (.seq _ _) (fun n139 => ?_))
        refine AOps.st 140 rfl rfl rfl (op_eql rfl rfl rfl ?_); intro c140 h140
        refine AOps.st 2 rfl rfl rfl (op_assign rfl rfl ?_)
        refine AOps.nil ?_
        refine go_code ?_
        refine c_ret ?_
        exact out_tmp rfl rfl (Le.refl _) (by first | exact MLe.none _ | exact MLe.refl _ | (repeat' (first | exact MLe.nil | exact MLe.refl _ | refine MLe.cons _ ?_ | refine MLe.drop _ ?_))) ⟨⟨_, h140.trans (by rw [hl1]; exact ⟨fun q => ⟨e1, e2, hu.1 (by omega)⟩, fun q => by have := hu.2 q.2.2; omega⟩), rfl⟩, rfl⟩
      · refine c_cond_t rfl ?_
        refine c_skip ?_
        refine go_code ?_
        refine c_seq ?_
        refine c_block ?_
        refine c_seq ?_
        obtain ⟨⟨flen, fsl, fcp⟩, hxf⟩ := get_some (l := fu) (i := k) (by first | omega | (simp at *; omega))
        have hcf := Cf.cellss_get hxf
        have hmf := List.mem_of_getElem? hxf
        rw [drop_get hxf, hR] at hu
        have hLf := (hgf _).2 hmf
        obtain ⟨⟨hz1, hz2⟩, _, _⟩ := hLf
        simp only [Cf.len, Cf.sl, Cf.cp] at hu
        refine c_region ?_
        refine AOps.st 66 rfl rfl rfl (op_index rfl te_23 rfl (.seq _ _) rfl rfl (by assumption) ?_)
        first | (refine AOps.st 67 rfl rfl rfl (op_load_m (cs' := [_, _, _]) (i := 0) rfl ta_39 rfl rfl rfl rfl ?_)) | (refine AOps.st 67 rfl rfl rfl (op_load_m (cs' := [_, _, _]) (i := 1) rfl ta_39 rfl rfl rfl rfl ?_)) | (refine AOps.st 67 rfl rfl rfl (op_load_m (cs' := [_, _, _]) (i := 2) rfl ta_39 rfl rfl rfl rfl ?_)) | (refine AOps.st 67 rfl rfl rfl (op_load_m (cs' := [_, _, _]) (i := 3) rfl ta_39 rfl rfl rfl rfl ?_)) | (refine AOps.st 67 rfl rfl rfl (op_load_m (cs' := [_, _, _]) (i := 4) rfl ta_39 rfl rfl rfl rfl ?_)) | (refine AOps.st 67 rfl rfl rfl (op_load_m (cs' := [_, _, _]) (i := 5) rfl ta_39 rfl rfl rfl rfl ?_)) | (refine AOps.st 67 rfl rfl rfl (op_load_m (cs' := [_, _, _]) (i := 6) rfl ta_39 rfl rfl rfl rfl ?_)) | (refine AOps.st 67 rfl rfl rfl (op_load_m (cs' := [_, _, _]) (i := 7) rfl ta_39 rfl rfl rfl rfl ?_)) | (refine AOps.st 67 rfl rfl rfl (op_load_m (cs' := [_, _, _]) (i := 8) rfl ta_39 rfl rfl rfl rfl ?_)) | (refine AOps.st 67 rfl rfl rfl (op_load_m (cs' := [_, _, _]) (i := 9) rfl ta_39 rfl rfl rfl rfl ?_)) | (refine AOps.st 67 rfl rfl rfl (op_load_c (cs' := [_, _, _]) rfl ta_39 rfl rfl rfl ?_))
        refine AOps.st 6 rfl rfl rfl (op_alloce (cs' := [_, _, _]) rfl tz_39 rfl rfl ?_); intro b6
        refine AOps.st0 rfl rfl (op_store (cs' := [_, _, _]) (i := 0) rfl ts_39 rfl rfl rfl rfl rfl (Nat.le_of_ble_eq_true rfl) rfl ?_)
        refine AOps.nil ?_
        refine go_code ?_
        refine c_seq ?_
        refine c_seq ?_
        refine c_bool 96 (¬ (1 ≤ flen ∧ flen ≤ is.length - at0 ∧ 1 ≤ fsl ∧ fsl ≤ 1048576 ∧ 0 ≤ fcp ∧ fcp ≤ 1048576)) ?_ _ _ rfl ?_
        · skip
          refine AOps.st 68 rfl rfl rfl (op_fieldAddr_m rfl tf_39_0 rfl ?_)
          refine AOps.st 69 rfl rfl rfl (op_load_m1 (i := 0) rfl ta_3 rfl rfl rfl ?_)
          refine AOps.st 70 rfl rfl rfl (op_lss rfl rfl rfl ?_); intro c70 h70
          refine AOps.st 71 rfl rfl rfl (op_move rfl rfl ?_)
          rcases bool_split h70 with ⟨rfl, g70⟩ | ⟨rfl, g70⟩
          · skip
            refine AOps.gt 72 rfl rfl rfl rfl rfl (op_fieldAddr_m rfl tf_39_0 rfl ?_)
            refine AOps.gt 73 rfl rfl rfl rfl rfl (op_load_m1 (i := 0) rfl ta_3 rfl rfl rfl ?_)
            refine AOps.gt 74 rfl rfl rfl rfl rfl (op_fieldAddr_c rfl tf_26_0 rfl rfl ?_)
            refine AOps.gt 75 rfl rfl rfl rfl rfl (op_load_c1 rfl ta_22 rfl rfl ?_)
            refine AOps.gt 76 rfl rfl rfl rfl rfl (op_len rfl tu_22 rfl (.seq _ _) (fun n76 => ?_))
            refine AOps.gt 77 rfl rfl rfl rfl rfl (op_move rfl rfl ?_)
            refine AOps.gt 78 rfl rfl rfl rfl rfl (op_sub rfl rfl rfl (IntWalk.i64_in _ (by omega)) ?_)
            refine AOps.gt 79 rfl rfl rfl rfl rfl (op_gtr rfl rfl rfl ?_); intro c79 h79
            refine AOps.st 80 rfl rfl rfl (op_pick rfl rfl rfl ?_)
            refine AOps.st 81 rfl rfl rfl (op_move rfl rfl ?_)
            rcases bool_split h79 with ⟨rfl, g79⟩ | ⟨rfl, g79⟩
            · skip
              refine AOps.gt 82 rfl rfl rfl rfl rfl (op_fieldAddr_m rfl tf_39_1 rfl ?_)
              refine AOps.gt 83 rfl rfl rfl rfl rfl (op_load_m1 (i := 0) rfl ta_3 rfl rfl rfl ?_)
              refine AOps.gt 84 rfl rfl rfl rfl rfl (op_lss rfl rfl rfl ?_); intro c84 h84
              refine AOps.st 85 rfl rfl rfl (op_pick rfl rfl rfl ?_)
              refine AOps.st 86 rfl rfl rfl (op_move rfl rfl ?_)
              rcases bool_split h84 with ⟨rfl, g84⟩ | ⟨rfl, g84⟩
              · skip
                refine AOps.gt 87 rfl rfl rfl rfl rfl (op_fieldAddr_m rfl tf_39_1 rfl ?_)
                refine AOps.gt 88 rfl rfl rfl rfl rfl (op_load_m1 (i := 0) rfl ta_3 rfl rfl rfl ?_)
                refine AOps.gt 89 rfl rfl rfl rfl rfl (op_gtr rfl rfl rfl ?_); intro c89 h89
                refine AOps.st 90 rfl rfl rfl (op_pick rfl rfl rfl ?_)
                refine AOps.st 91 rfl rfl rfl (op_move rfl rfl ?_)
                rcases bool_split h89 with ⟨rfl, g89⟩ | ⟨rfl, g89⟩
                · skip
                  refine AOps.gt 92 rfl rfl rfl rfl rfl (op_fieldAddr_m rfl tf_39_2 rfl ?_)
                  refine AOps.gt 93 rfl rfl rfl rfl rfl (op_load_m1 (i := 0) rfl ta_3 rfl rfl rfl ?_)
                  refine AOps.gt 94 rfl rfl rfl rfl rfl (op_callb (xs := [.tmp 93, .const (.int .i64 1048577)]) rfl rfl (within_c fcp 1048577) (by first | exact Les.refl _ | (repeat' (first | exact Les.refl _ | refine Les.cons ?_ ?_ | exact Le.refl _ | exact Le.own _ _ _ | exact Le.nil _ | refine Le.agg ?_))) ?_); intro c94 h94
                  refine AOps.gt 95 rfl rfl rfl rfl rfl (op_notc rfl rfl ?_); intro c95 h95
                  try replace h95 := nott h95 h94
                  refine AOps.st 96 rfl rfl rfl (op_pick rfl rfl rfl ?_)
                  refine AOps.nil ?_
                  refine BoolQ.mk rfl ?_ (by repeat' (first | exact SLe.wo _ _ | exact SLe.refl _ | refine SLe.fresh rfl ?_)) (by first | exact MLe.none _ | exact MLe.refl _ | (repeat' (first | exact MLe.nil | exact MLe.refl _ | refine MLe.cons _ ?_ | refine MLe.drop _ ?_)))
                  first | (simp only [true_iff]; omega) | (rw [h95]; omega)
                · skip
                  refine AOps.gf 92 rfl rfl rfl rfl rfl ?_
                  refine AOps.gf 93 rfl rfl rfl rfl rfl ?_
                  refine AOps.gf 94 rfl rfl rfl rfl rfl ?_
                  refine AOps.gf 95 rfl rfl rfl rfl rfl ?_
                  refine AOps.st 96 rfl rfl rfl (op_pick rfl rfl rfl ?_)
                  refine AOps.nil ?_
                  refine BoolQ.mk rfl ?_ (by repeat' (first | exact SLe.wo _ _ | exact SLe.refl _ | refine SLe.fresh rfl ?_)) (by first | exact MLe.none _ | exact MLe.refl _ | (repeat' (first | exact MLe.nil | exact MLe.refl _ | refine MLe.cons _ ?_ | refine MLe.drop _ ?_)))
                  simp only [true_iff]; omega
              · skip
                refine AOps.gf 87 rfl rfl rfl rfl rfl ?_
                refine AOps.gf 88 rfl rfl rfl rfl rfl ?_
                refine AOps.gf 89 rfl rfl rfl rfl rfl ?_
                refine AOps.st 90 rfl rfl rfl (op_pick rfl rfl rfl ?_)
                refine AOps.st 91 rfl rfl rfl (op_move rfl rfl ?_)
                refine AOps.gf 92 rfl rfl rfl rfl rfl ?_
                refine AOps.gf 93 rfl rfl rfl rfl rfl ?_
                refine AOps.gf 94 rfl rfl rfl rfl rfl ?_
                refine AOps.gf 95 rfl rfl rfl rfl rfl ?_
                refine AOps.st 96 rfl rfl rfl (op_pick rfl rfl rfl ?_)
                refine AOps.nil ?_
                refine BoolQ.mk rfl ?_ (by repeat' (first | exact SLe.wo _ _ | exact SLe.refl _ | refine SLe.fresh rfl ?_)) (by first | exact MLe.none _ | exact MLe.refl _ | (repeat' (first | exact MLe.nil | exact MLe.refl _ | refine MLe.cons _ ?_ | refine MLe.drop _ ?_)))
                simp only [true_iff]; omega
            · skip
              refine AOps.gf 82 rfl rfl rfl rfl rfl ?_
              refine AOps.gf 83 rfl rfl rfl rfl rfl ?_
              refine AOps.gf 84 rfl rfl rfl rfl rfl ?_
              refine AOps.st 85 rfl rfl rfl (op_pick rfl rfl rfl ?_)
              refine AOps.st 86 rfl rfl rfl (op_move rfl rfl ?_)
              refine AOps.gf 87 rfl rfl rfl rfl rfl ?_
              refine AOps.gf 88 rfl rfl rfl rfl rfl ?_
              refine AOps.gf 89 rfl rfl rfl rfl rfl ?_
              refine AOps.st 90 rfl rfl rfl (op_pick rfl rfl rfl ?_)
              refine AOps.st 91 rfl rfl rfl (op_move rfl rfl ?_)
              refine AOps.gf 92 rfl rfl rfl rfl rfl ?_
              refine AOps.gf 93 rfl rfl rfl rfl rfl ?_
              refine AOps.gf 94 rfl rfl rfl rfl rfl ?_
              refine AOps.gf 95 rfl rfl rfl rfl rfl ?_
              refine AOps.st 96 rfl rfl rfl (op_pick rfl rfl rfl ?_)
              refine AOps.nil ?_
              refine BoolQ.mk rfl ?_ (by repeat' (first | exact SLe.wo _ _ | exact SLe.refl _ | refine SLe.fresh rfl ?_)) (by first | exact MLe.none _ | exact MLe.refl _ | (repeat' (first | exact MLe.nil | exact MLe.refl _ | refine MLe.cons _ ?_ | refine MLe.drop _ ?_)))
              simp only [true_iff]; omega
          · skip
            refine AOps.gf 72 rfl rfl rfl rfl rfl ?_
            refine AOps.gf 73 rfl rfl rfl rfl rfl ?_
            refine AOps.gf 74 rfl rfl rfl rfl rfl ?_
            refine AOps.gf 75 rfl rfl rfl rfl rfl ?_
            refine AOps.gf 76 rfl rfl rfl rfl rfl ?_
            refine AOps.gf 77 rfl rfl rfl rfl rfl ?_
            refine AOps.gf 78 rfl rfl rfl rfl rfl ?_
            refine AOps.gf 79 rfl rfl rfl rfl rfl ?_
            refine AOps.st 80 rfl rfl rfl (op_pick rfl rfl rfl ?_)
            refine AOps.st 81 rfl rfl rfl (op_move rfl rfl ?_)
            refine AOps.gf 82 rfl rfl rfl rfl rfl ?_
            refine AOps.gf 83 rfl rfl rfl rfl rfl ?_
            refine AOps.gf 84 rfl rfl rfl rfl rfl ?_
            refine AOps.st 85 rfl rfl rfl (op_pick rfl rfl rfl ?_)
            refine AOps.st 86 rfl rfl rfl (op_move rfl rfl ?_)
            refine AOps.gf 87 rfl rfl rfl rfl rfl ?_
            refine AOps.gf 88 rfl rfl rfl rfl rfl ?_
            refine AOps.gf 89 rfl rfl rfl rfl rfl ?_
            refine AOps.st 90 rfl rfl rfl (op_pick rfl rfl rfl ?_)
            refine AOps.st 91 rfl rfl rfl (op_move rfl rfl ?_)
            refine AOps.gf 92 rfl rfl rfl rfl rfl ?_
            refine AOps.gf 93 rfl rfl rfl rfl rfl ?_
            refine AOps.gf 94 rfl rfl rfl rfl rfl ?_
            refine AOps.gf 95 rfl rfl rfl rfl rfl ?_
            refine AOps.st 96 rfl rfl rfl (op_pick rfl rfl rfl ?_)
            refine AOps.nil ?_
            refine BoolQ.mk rfl ?_ (by repeat' (first | exact SLe.wo _ _ | exact SLe.refl _ | refine SLe.fresh rfl ?_)) (by first | exact MLe.none _ | exact MLe.refl _ | (repeat' (first | exact MLe.nil | exact MLe.refl _ | refine MLe.cons _ ?_ | refine MLe.drop _ ?_)))
            simp only [true_iff]; omega
        intro c96 h96
        refine go_code ?_
        rcases bool_split h96 with ⟨rfl, g96⟩ | ⟨rfl, g96⟩
        · refine c_cond_f rfl ?_
          refine c_skip ?_
          refine go_code ?_
          refine c_seq ?_
          have e3 := Classical.not_not.1 g96
          have HE := HI ⟨flen, fsl, fcp⟩ at0 (at0 + flen.toNat) (at0 + flen) rfl (by simp only [Cf.sl]; omega) (by simp only [Cf.sl]; omega)
          rw [← Is.cellss_cut] at HE
          obtain ⟨⟨lop, la, lb, ln, lar, lfs, lcp⟩, hl⟩ := get_some (l := is) (i := at0 + flen.toNat - 1) (by omega)
          have hcl := Is.cellss_get hl
          have HD := ends_c ⟨lop, la, lb, ln, lar, lfs, lcp⟩
          have hle : (∀ i, is[at0 + flen.toNat - 1]? = some i → endP i) ↔ endP ⟨lop, la, lb, ln, lar, lfs, lcp⟩ := by
            rw [hl]; exact ⟨fun z => z _ rfl, fun z i e => by cases e; exact z⟩
          rw [hle] at hu
          change BCall _ _ _ (endP ⟨lop, la, lb, ln, lar, lfs, lcp⟩) at HD
          generalize endP ⟨lop, la, lb, ln, lar, lfs, lcp⟩ = eP at *
          generalize (∀ i ∈ (is.take (at0 + flen.toNat)).drop at0, RP ⟨flen, fsl, fcp⟩ at0 i) = iP at *
          refine c_region ?_
          refine AOps.st 97 rfl rfl rfl (op_load_c (cs' := [_, _, _, _, _, _]) rfl ta_26 rfl rfl rfl ?_)
          refine AOps.st 98 rfl rfl rfl (op_load_m (cs' := [_, _, _]) (i := 0) rfl ta_39 rfl rfl rfl rfl ?_)
          refine AOps.st 99 rfl rfl rfl (op_move rfl rfl ?_)
          refine AOps.st 100 rfl rfl rfl (op_move rfl rfl ?_)
          refine AOps.st 101 rfl rfl rfl (op_fieldAddr_m rfl tf_39_0 rfl ?_)
          refine AOps.st 102 rfl rfl rfl (op_load_m1 (i := 0) rfl ta_3 rfl rfl rfl ?_)
          refine AOps.st 103 rfl rfl rfl (op_add rfl rfl rfl (IntWalk.i64_in _ (by omega)) ?_)
          refine AOps.st 104 rfl rfl rfl (op_move rfl rfl ?_)
          refine AOps.st 105 rfl rfl rfl (op_build (ns := [0, 1, 2, 3, 4]) (xs := [.tmp 97, .tmp 98, .tmp 99, .tmp 103, .tmp 104]) rfl tz_53 rfl tfl_53 rfl rfl rfl rfl ?_)
          refine AOps.st 7 rfl rfl rfl (op_alloce (cs' := [_, _, _, _, _, _, _, _, _, _, _, _]) rfl tz_53 rfl rfl ?_); intro b7
          refine AOps.st0 rfl rfl (op_store (cs' := [_, _, _, _, _, _, _, _, _, _, _, _]) (i := 0) rfl ts_53 rfl rfl rfl rfl rfl (Nat.le_of_ble_eq_true rfl) rfl ?_)
          refine AOps.nil ?_
          refine go_code ?_
          refine c_seq ?_
          refine c_seq ?_
          refine c_boold 130 (¬ (iP ∧ eP)) tmix rfl ?_ _ _ rfl ?_
          · skip
            refine DOps.st 106 rfl rfl (op_fieldAddr_c rfl tf_26_0 rfl rfl ⟨rfl, rfl⟩) ?_
            refine DOps.st 107 rfl rfl (op_load_c1 rfl ta_22 rfl rfl ⟨rfl, rfl⟩) ?_
            refine DOps.st 108 rfl rfl (op_move rfl rfl ⟨rfl, rfl⟩) ?_
            refine DOps.st 109 rfl rfl (op_move rfl rfl ⟨rfl, rfl⟩) ?_
            refine DOps.st 110 rfl rfl (op_fieldAddr_m rfl tf_39_0 rfl ⟨rfl, rfl⟩) ?_
            first | (refine DOps.st 111 rfl rfl (op_load_m1 (i := 0) rfl ta_3 rfl rfl rfl ⟨rfl, rfl⟩) ?_) | (refine DOps.st 111 rfl rfl (op_load_m1 (i := 1) rfl ta_3 rfl rfl rfl ⟨rfl, rfl⟩) ?_)
            refine DOps.st 112 rfl rfl (op_add rfl rfl rfl (IntWalk.i64_in _ (by omega)) ⟨rfl, rfl⟩) ?_
            refine DOps.st 113 rfl rfl (op_cut (l := at0) (k := at0 + flen.toNat) rfl te_22 rfl (.seq _ _) rfl rfl (by omega) (by omega) (by omega) (by omega) ⟨rfl, rfl⟩) ?_
            refine DOps.st 114 rfl rfl (op_load_m (cs' := [_, _, _, _, _, _, _, _, _, _, _, _]) (i := 0) rfl ta_53 rfl rfl rfl rfl ⟨rfl, rfl⟩) ?_
            refine DOps.st 115 rfl rfl (op_makeFunc (fs := [.tmp 114]) (cs := []) rfl rfl rfl ⟨rfl, rfl⟩) ?_
            refine DOps.cm 116 rfl rfl (fun _ q => op_callb (xs := [.tmp 113, .tmp 115]) rfl rfl (HE) (by first | exact Les.refl _ | (repeat' (first | exact Les.refl _ | refine Les.cons ?_ ?_ | exact Le.refl _ | exact Le.own _ _ _ | exact Le.nil _ | refine Le.agg ?_))) q) ?_; intro c116 h116
            refine DOps.cm 117 rfl rfl (fun _ q => op_notc rfl rfl q) ?_; intro c117 h117
            try replace h117 := nott h117 h116
            refine DOps.st 118 rfl rfl (op_move rfl rfl ⟨rfl, rfl⟩) ?_
            rcases bool_split h117 with ⟨rfl, g117⟩ | ⟨rfl, g117⟩
            · skip
              refine DOps.gt 119 rfl rfl rfl rfl (op_fieldAddr_c rfl tf_26_0 rfl rfl ⟨rfl, rfl⟩) ?_
              refine DOps.gt 120 rfl rfl rfl rfl (op_load_c1 rfl ta_22 rfl rfl ⟨rfl, rfl⟩) ?_
              refine DOps.gt 121 rfl rfl rfl rfl (op_move rfl rfl ⟨rfl, rfl⟩) ?_
              refine DOps.gt 122 rfl rfl rfl rfl (op_fieldAddr_m rfl tf_39_0 rfl ⟨rfl, rfl⟩) ?_
              first | (refine DOps.gt 123 rfl rfl rfl rfl (op_load_m1 (i := 0) rfl ta_3 rfl rfl rfl ⟨rfl, rfl⟩) ?_) | (refine DOps.gt 123 rfl rfl rfl rfl (op_load_m1 (i := 1) rfl ta_3 rfl rfl rfl ⟨rfl, rfl⟩) ?_)
              refine DOps.gt 124 rfl rfl rfl rfl (op_add rfl rfl rfl (IntWalk.i64_in _ (by omega)) ⟨rfl, rfl⟩) ?_
              refine DOps.gt 125 rfl rfl rfl rfl (op_sub rfl rfl rfl (IntWalk.i64_in _ (by omega)) ⟨rfl, rfl⟩) ?_
              first | (refine DOps.gt 126 rfl rfl rfl rfl (op_index rfl te_22 rfl (.seq _ _) rfl rfl (hcl) ⟨rfl, rfl⟩) ?_) | (refine DOps.gt 126 rfl rfl rfl rfl (op_index (i := 0) rfl te_22 rfl (.seq _ _) rfl rfl (by first | rfl | assumption) ⟨rfl, rfl⟩) ?_) | (refine DOps.gt 126 rfl rfl rfl rfl (op_index (i := 1) rfl te_22 rfl (.seq _ _) rfl rfl (by first | rfl | assumption) ⟨rfl, rfl⟩) ?_) | (refine DOps.gt 126 rfl rfl rfl rfl (op_index rfl te_22 rfl (.own _ _ _) rfl rfl (hcl) ⟨rfl, rfl⟩) ?_) | (refine DOps.gt 126 rfl rfl rfl rfl (op_index (i := 0) rfl te_22 rfl (.own _ _ _) rfl rfl (by first | rfl | assumption) ⟨rfl, rfl⟩) ?_) | (refine DOps.gt 126 rfl rfl rfl rfl (op_index (i := 1) rfl te_22 rfl (.own _ _ _) rfl rfl (by first | rfl | assumption) ⟨rfl, rfl⟩) ?_) | (refine DOps.gt 126 rfl rfl rfl rfl (op_index (i := at0 + flen.toNat - 1) rfl te_22 rfl (.seq _ _) rfl (by first | rfl | omega) (hcl) ⟨rfl, rfl⟩) ?_)
              first | (refine DOps.gt 127 rfl rfl rfl rfl (op_load_m (cs' := [_, _, _, _, _, _, _]) (i := 0) rfl ta_46 rfl rfl rfl rfl ⟨rfl, rfl⟩) ?_) | (refine DOps.gt 127 rfl rfl rfl rfl (op_load_m (cs' := [_, _, _, _, _, _, _]) (i := 1) rfl ta_46 rfl rfl rfl rfl ⟨rfl, rfl⟩) ?_) | (refine DOps.gt 127 rfl rfl rfl rfl (op_load_m (cs' := [_, _, _, _, _, _, _]) (i := 2) rfl ta_46 rfl rfl rfl rfl ⟨rfl, rfl⟩) ?_) | (refine DOps.gt 127 rfl rfl rfl rfl (op_load_m (cs' := [_, _, _, _, _, _, _]) (i := 3) rfl ta_46 rfl rfl rfl rfl ⟨rfl, rfl⟩) ?_) | (refine DOps.gt 127 rfl rfl rfl rfl (op_load_m (cs' := [_, _, _, _, _, _, _]) (i := 4) rfl ta_46 rfl rfl rfl rfl ⟨rfl, rfl⟩) ?_) | (refine DOps.gt 127 rfl rfl rfl rfl (op_load_m (cs' := [_, _, _, _, _, _, _]) (i := 5) rfl ta_46 rfl rfl rfl rfl ⟨rfl, rfl⟩) ?_) | (refine DOps.gt 127 rfl rfl rfl rfl (op_load_m (cs' := [_, _, _, _, _, _, _]) (i := 6) rfl ta_46 rfl rfl rfl rfl ⟨rfl, rfl⟩) ?_) | (refine DOps.gt 127 rfl rfl rfl rfl (op_load_m (cs' := [_, _, _, _, _, _, _]) (i := 7) rfl ta_46 rfl rfl rfl rfl ⟨rfl, rfl⟩) ?_) | (refine DOps.gt 127 rfl rfl rfl rfl (op_load_m (cs' := [_, _, _, _, _, _, _]) (i := 8) rfl ta_46 rfl rfl rfl rfl ⟨rfl, rfl⟩) ?_) | (refine DOps.gt 127 rfl rfl rfl rfl (op_load_m (cs' := [_, _, _, _, _, _, _]) (i := 9) rfl ta_46 rfl rfl rfl rfl ⟨rfl, rfl⟩) ?_) | (refine DOps.gt 127 rfl rfl rfl rfl (op_load_c (cs' := [_, _, _, _, _, _, _]) rfl ta_46 rfl rfl rfl ⟨rfl, rfl⟩) ?_)
              refine DOps.gtc 128 rfl rfl rfl rfl (fun _ q => op_callb (xs := [.tmp 127]) rfl rfl (HD) (by first | exact Les.refl _ | (repeat' (first | exact Les.refl _ | refine Les.cons ?_ ?_ | exact Le.refl _ | exact Le.own _ _ _ | exact Le.nil _ | refine Le.agg ?_))) q) ?_; intro c128 h128
              refine DOps.gtc 129 rfl rfl rfl rfl (fun _ q => op_notc rfl rfl q) ?_; intro c129 h129
              try replace h129 := nott h129 h128
              refine DOps.st 130 rfl rfl (op_pick rfl rfl rfl ⟨rfl, rfl⟩) ?_
              show BoolQ _ _ _ _ _ _
              refine BoolQ.mk rfl ?_ (by repeat' (first | exact SLe.wo _ _ | exact SLe.refl _ | refine SLe.fresh rfl ?_)) (by first | exact MLe.none _ | exact MLe.refl _ | (repeat' (first | exact MLe.nil | exact MLe.refl _ | refine MLe.cons _ ?_ | refine MLe.drop _ ?_)))
              simp_all; done
            · skip
              refine DOps.gf 119 rfl rfl rfl rfl ?_
              refine DOps.gf 120 rfl rfl rfl rfl ?_
              refine DOps.gf 121 rfl rfl rfl rfl ?_
              refine DOps.gf 122 rfl rfl rfl rfl ?_
              refine DOps.gf 123 rfl rfl rfl rfl ?_
              refine DOps.gf 124 rfl rfl rfl rfl ?_
              refine DOps.gf 125 rfl rfl rfl rfl ?_
              refine DOps.gf 126 rfl rfl rfl rfl ?_
              refine DOps.gf 127 rfl rfl rfl rfl ?_
              refine DOps.gf 128 rfl rfl rfl rfl ?_
              refine DOps.gf 129 rfl rfl rfl rfl ?_
              refine DOps.st 130 rfl rfl (op_pick rfl rfl rfl ⟨rfl, rfl⟩) ?_
              show BoolQ _ _ _ _ _ _
              refine BoolQ.mk rfl ?_ (by repeat' (first | exact SLe.wo _ _ | exact SLe.refl _ | refine SLe.fresh rfl ?_)) (by first | exact MLe.none _ | exact MLe.refl _ | (repeat' (first | exact MLe.nil | exact MLe.refl _ | refine MLe.cons _ ?_ | refine MLe.drop _ ?_)))
              simp_all; done
          intro c130 h130
          refine go_code ?_
          rcases bool_split h130 with ⟨rfl, g130⟩ | ⟨rfl, g130⟩
          · refine c_cond_f rfl ?_
            refine c_skip ?_
            refine go_code ?_
            refine c_region ?_
            refine AOps.st 131 rfl rfl rfl (op_move rfl rfl ?_)
            refine AOps.st 132 rfl rfl rfl (op_fieldAddr_m rfl tf_39_0 rfl ?_)
            first | (refine AOps.st 133 rfl rfl rfl (op_load_m1 (i := 0) rfl ta_3 rfl rfl rfl ?_)) | (refine AOps.st 133 rfl rfl rfl (op_load_m1 (i := 1) rfl ta_3 rfl rfl rfl ?_))
            refine AOps.st 134 rfl rfl rfl (op_add rfl rfl rfl (IntWalk.i64_in _ (by omega)) ?_)
            refine AOps.st 4 rfl rfl rfl (op_assign rfl rfl ?_)
            refine AOps.nil ?_
            refine go_blk ?_
            refine go_code ?_
            refine c_region ?_
            refine AOps.st 135 rfl rfl rfl (op_add rfl rfl rfl (IntWalk.i64_in _ (by omega)) ?_)
            refine AOps.st 64 rfl rfl rfl (op_move rfl rfl ?_)
            refine AOps.nil ?_
            refine go_lp ?_
            exact ⟨(k + 1, at0 + flen.toNat), ⟨by show k + 1 ≤ _; omega, by show at0 + flen.toNat ≤ _; omega, ⟨fun q => hu.1 ⟨⟨e3, Classical.not_not.1 g130⟩, q⟩, fun q => (hu.2 q).2⟩⟩, by simp; omega, (SLe.cons rfl (Le.refl _) (SLe.cons rfl (Le.ieq (by omega)) (by repeat' (first | exact SLe.nil _ | refine SLe.cons rfl ?_ ?_ | exact Le.refl _ | exact Le.own _ _ _ | exact Le.nil _)))), (by first | exact MLe.none _ | exact MLe.refl _ | (repeat' (first | exact MLe.nil | exact MLe.refl _ | refine MLe.cons _ ?_ | refine MLe.drop _ ?_)))⟩
          · refine c_cond_t rfl ?_
            refine c_seq ?_
            refine c_region ?_
            refine AOps.st 2 rfl rfl rfl (op_assign rfl rfl ?_)
            refine AOps.nil ?_
            refine go_code ?_
            refine c_ret ?_
            exact out_tmp rfl rfl (Le.refl _) (by first | exact MLe.none _ | exact MLe.refl _ | (repeat' (first | exact MLe.nil | exact MLe.refl _ | refine MLe.cons _ ?_ | refine MLe.drop _ ?_))) ⟨⟨_, iff_f (fun q => g130 (hu.2 q.2.2).1.2), rfl⟩, rfl⟩
        · refine c_cond_t rfl ?_
          refine c_seq ?_
          refine c_region ?_
          refine AOps.st 2 rfl rfl rfl (op_assign rfl rfl ?_)
          refine AOps.nil ?_
          refine go_code ?_
          refine c_ret ?_
          exact out_tmp rfl rfl (Le.refl _) (by first | exact MLe.none _ | exact MLe.refl _ | (repeat' (first | exact MLe.nil | exact MLe.refl _ | refine MLe.cons _ ?_ | refine MLe.drop _ ?_))) ⟨⟨_, iff_f (fun q => g96 (hu.2 q.2.2).1.1), rfl⟩, rfl⟩
    · refine c_cond_t rfl ?_
      refine c_seq ?_
      refine c_region ?_
      refine AOps.st 2 rfl rfl rfl (op_assign rfl rfl ?_)
      refine AOps.nil ?_
      refine go_code ?_
      refine c_ret ?_
      exact out_tmp rfl rfl (Le.refl _) (by first | exact MLe.none _ | exact MLe.refl _ | (repeat' (first | exact MLe.nil | exact MLe.refl _ | refine MLe.cons _ ?_ | refine MLe.drop _ ?_))) ⟨⟨_, iff_f (fun q => g59 q.2.1), rfl⟩, rfl⟩
  · refine c_cond_t rfl ?_
    refine c_seq ?_
    refine c_region ?_
    refine AOps.st 2 rfl rfl rfl (op_assign rfl rfl ?_)
    refine AOps.nil ?_
    refine go_code ?_
    refine c_ret ?_
    exact out_tmp rfl rfl (Le.refl _) (by first | exact MLe.none _ | exact MLe.refl _ | (repeat' (first | exact MLe.nil | exact MLe.refl _ | refine MLe.cons _ ?_ | refine MLe.drop _ ?_))) ⟨⟨_, iff_f (fun q => g55 q.1), rfl⟩, rfl⟩
end Go.Proofs.Ytadhakcmfkghbaa
