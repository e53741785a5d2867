/- TreeNames (where what it reads is of bulk at most 1048576): any expression has the document's free names, and any pattern in it names what it says; it is a value just if it says so. -/
import Derived.Test.YtjgjnheeohfmmaaChecked
import Derived.Test.YtjgjnheeohfmmaaRows
import Derived.Test.YtjgjnheeohfmmaaAZ
import Derived.Test.YtjgjnheeohfmmaaAU
import Derived.Test.YtjgjnheeohfmmaaPK
import Derived.Test.YtjgjnheeohfmmaaOE
import Derived.Test.YtjgjnheeohfmmaaB05f
import Derived.Test.YtjgjnheeohfmmaaB05x
namespace Go.Proofs.Ytjgjnheeohfmmaa
open Go.ChangeShapes Go.WideShapes Go.ChangeAt Go.RowKit
theorem bool_same' {a b : Bool} {p : Prop} (ha : a = true ↔ p) (hb : b = true ↔ p) : a = b := by
  cases a <;> cases b <;> simp_all
set_option maxHeartbeats 4000000 in
set_option maxRecDepth 100000 in
theorem TreeNames_c (e : Ex) (hL : e.Lim) (hw : e.w ≤ 1048576) : ACall Try.prog 9 [.agg e.cells] [] (fun v _ => v = .val (.bool true)) := by
  have HA := Small5_c e 500 hL (by omega) (by omega)
  have H1 := (Free_c e (by omega)).pure
  have H2 := rFree_c e (by omega)
  have H3 := (Texts_c (e.fr [] []) e.rf).yes e.free_eq
  have H4 := tValue_c e
  have H5 := rValue_c e
  generalize e.full = fa at *
  generalize e.fr [] [] = fr at *
  generalize e.rf = rf at *
  generalize e.Val = V at *
  obtain ⟨k1, s1, n1, ⟨tk1, ts1, tn1, tks1⟩, ks1, al1, bs1, p1⟩ := e
  have hl1 := Al.cellss_len al1
  rw [Ex.w] at hw
  refine ACall.enter Try.func9 rfl (by kernel_rfl) rfl (Nat.le_of_ble_eq_true rfl) ?_
  refine c_start ?_
  refine c_lena (t := 0) (j := 8) rfl rfl (.seq _ _) (fun hmax => ?_)
  refine c_seq ?_
  refine c_region ?_
  refine AOps.st 1 rfl rfl rfl (op_boxc (cs' := [_, _, _, _, _, _, _, _, _, _, _]) rfl rfl rfl rfl ?_)
  refine AOps.st 2 rfl rfl rfl (op_assign rfl rfl ?_)
  refine AOps.nil ?_
  refine go_code ?_
  refine c_seq ?_
  refine c_seq ?_
  refine c_region ?_
  refine AOps.st 5 rfl rfl rfl (op_callp (xs := []) rfl rfl (awake05_c) (by first | exact Les.refl _ | (repeat' (first | exact Les.refl _ | refine Les.cons ?_ ?_ | exact Le.refl _ | exact Le.own _ _ _ | exact Le.nil _ | refine Le.agg ?_))) ?_)
  refine AOps.st 6 rfl rfl rfl (op_notc rfl rfl ?_); intro c6 h6
  try replace h6 := nott h6 h5
  refine AOps.nil ?_
  refine go_code ?_
  rcases bool_split h6 with ⟨rfl, g6⟩ | ⟨rfl, g6⟩
  · refine c_cond_f rfl ?_
    refine c_skip ?_
    refine go_code ?_
    refine c_seq ?_
    refine c_seq ?_
    refine c_region ?_
    refine AOps.st 7 rfl rfl rfl (op_load_c (cs' := [_, _, _, _, _, _, _, _, _, _, _]) rfl ta_60 rfl rfl rfl ?_)
    refine AOps.st 8 rfl rfl rfl (op_callb (xs := [.tmp 7, .const (.int .i64 500)]) rfl rfl (HA) (by first | exact Les.refl _ | (repeat' (first | exact Les.refl _ | refine Les.cons ?_ ?_ | exact Le.refl _ | exact Le.own _ _ _ | exact Le.nil _ | refine Le.agg ?_))) ?_); intro c8 h8
    refine AOps.st 9 rfl rfl rfl (op_notc rfl rfl ?_); intro c9 h9
    try replace h9 := nott h9 h8
    refine AOps.nil ?_
    refine go_code ?_
    rcases bool_split h9 with ⟨rfl, g9⟩ | ⟨rfl, g9⟩
    · refine c_cond_f rfl ?_
      refine c_skip ?_
      refine go_code ?_
      refine c_seq ?_
      refine c_seq ?_
      refine c_region ?_
      refine AOps.st 10 rfl rfl rfl (op_fieldAddr_c rfl tf_60_5 rfl rfl ?_)
      refine AOps.st 11 rfl rfl rfl (op_load_c1 rfl ta_57 rfl rfl ?_)
      first | (refine AOps.st 12 rfl rfl rfl (op_len rfl tu_57 rfl (.seq _ _) (fun n12 => ?_))) | (refine AOps.st 12 rfl rfl rfl (op_len rfl tu_57 rfl (.own _ _ _) (fun n12 => ?_))) | (refine AOps.st 12 rfl rfl rfl (op_len rfl tu_57 rfl (.nil 0) (fun n12 => ?_))) | (refine AOps.st 12 rfl rfl rfl (op_len_arr rfl tu_57 rfl ?_))
      refine AOps.st 13 rfl rfl rfl (op_move rfl rfl ?_)
      refine AOps.nil ?_
      refine go_code ?_
      refine c_block ?_
      refine c_loop (σ := Nat) (fun zz => match zz with | i => [(1, .cptr (Ex.mk k1 s1 n1 ⟨tk1, ts1, tn1, tks1⟩ ks1 al1 bs1 p1).cells), (11, .seq 16 (Al.cellss al1)), (12, .val (.int .i64 (Al.cellss al1).length)), (13, .val (.int .i64 i))]) (fun zz => match zz with | i => []) (fun zz => match zz with | i => i ≤ al1.length) (fun zz => match zz with | i => al1.length - i) (0) ?_ ?_ ?_ ?_
      · simp
      · exact (by repeat' (first | exact SLe.nil _ | refine SLe.cons rfl ?_ ?_ | exact Le.refl _ | exact Le.own _ _ _ | exact Le.nil _))
      · exact (by first | exact MLe.none _ | exact MLe.refl _ | (repeat' (first | exact MLe.nil | exact MLe.refl _ | refine MLe.cons _ ?_ | refine MLe.drop _ ?_)))
      rintro i hI
      try dsimp only at hI ⊢
      refine c_seq ?_
      refine c_region ?_
      refine AOps.st 14 rfl rfl rfl (op_lss rfl rfl rfl ?_); intro c14 h14
      refine AOps.nil ?_
      refine go_code ?_
      refine c_seq ?_
      rcases bool_split h14 with ⟨rfl, g14⟩ | ⟨rfl, g14⟩
      · refine c_cond_f rfl ?_
        refine c_exit ?_
        refine x_code ?_
        refine x_lp ?_
        refine x_here ?_
        refine go_code ?_
        refine c_seq ?_
        refine c_boold 2 (True) tmix rfl ?_ _ _ rfl ?_
        · skip
          refine DOps.st 26 rfl rfl (op_load_c (cs' := [_, _, _, _, _, _, _, _, _, _, _]) rfl ta_60 rfl rfl rfl ⟨rfl, rfl⟩) ?_
          refine DOps.st 27 rfl rfl (op_callp (xs := [.tmp 26]) rfl rfl (H1) (by first | exact Les.refl _ | (repeat' (first | exact Les.refl _ | refine Les.cons ?_ ?_ | exact Le.refl _ | exact Le.own _ _ _ | exact Le.nil _ | refine Le.agg ?_))) ⟨rfl, rfl⟩) ?_
          refine DOps.st 28 rfl rfl (op_load_c (cs' := [_, _, _, _, _, _, _, _, _, _, _]) rfl ta_60 rfl rfl rfl ⟨rfl, rfl⟩) ?_
          refine DOps.st 29 rfl rfl (op_callp (xs := [.tmp 28]) rfl rfl (H2) (by first | exact Les.refl _ | (repeat' (first | exact Les.refl _ | refine Les.cons ?_ ?_ | exact Le.refl _ | exact Le.own _ _ _ | exact Le.nil _ | refine Le.agg ?_))) ⟨rfl, rfl⟩) ?_
          refine DOps.st 30 rfl rfl (op_callp (xs := [.tmp 27, .tmp 29]) rfl rfl (H3) (by first | exact Les.refl _ | (repeat' (first | exact Les.refl _ | refine Les.cons ?_ ?_ | exact Le.refl _ | exact Le.own _ _ _ | exact Le.nil _ | refine Le.agg ?_))) ⟨rfl, rfl⟩) ?_
          refine DOps.st 31 rfl rfl (op_move rfl rfl ⟨rfl, rfl⟩) ?_
          refine DOps.gt 32 rfl rfl rfl rfl (op_load_c (cs' := [_, _, _, _, _, _, _, _, _, _, _]) rfl ta_60 rfl rfl rfl ⟨rfl, rfl⟩) ?_
          refine DOps.gtc 33 rfl rfl rfl rfl (fun _ q => op_callb (xs := [.tmp 32]) rfl rfl (H4) (by first | exact Les.refl _ | (repeat' (first | exact Les.refl _ | refine Les.cons ?_ ?_ | exact Le.refl _ | exact Le.own _ _ _ | exact Le.nil _ | refine Le.agg ?_))) q) ?_; intro c33 h33
          refine DOps.gt 34 rfl rfl rfl rfl (op_load_c (cs' := [_, _, _, _, _, _, _, _, _, _, _]) rfl ta_60 rfl rfl rfl ⟨rfl, rfl⟩) ?_
          refine DOps.gtc 35 rfl rfl rfl rfl (fun _ q => op_callb (xs := [.tmp 34]) rfl rfl (H5) (by first | exact Les.refl _ | (repeat' (first | exact Les.refl _ | refine Les.cons ?_ ?_ | exact Le.refl _ | exact Le.own _ _ _ | exact Le.nil _ | refine Le.agg ?_))) q) ?_; intro c35 h35
          refine DOps.gtc 36 rfl rfl rfl rfl (fun _ q => op_beqlc rfl tu_4 rfl rfl q) ?_; intro c36 h36
          refine DOps.st 37 rfl rfl (op_pick rfl rfl rfl ⟨rfl, rfl⟩) ?_
          refine DOps.st 2 rfl rfl (op_assign rfl rfl ⟨rfl, rfl⟩) ?_
          show BoolQ _ _ _ _ _ _
          refine BoolQ.mk rfl ?_ (by repeat' (first | exact SLe.wo _ _ | exact SLe.refl _ | refine SLe.fresh rfl ?_)) (by first | exact MLe.none _ | exact MLe.refl _ | (repeat' (first | exact MLe.nil | exact MLe.refl _ | refine MLe.cons _ ?_ | refine MLe.drop _ ?_)))
          first | (simp_all; done) | (simp_all; exact bool_same' h33 h35)
        intro c2 h2
        refine go_code ?_
        refine c_ret ?_
        exact out_tmp rfl rfl (Le.refl _) (by first | exact MLe.none _ | exact MLe.refl _ | (repeat' (first | exact MLe.nil | exact MLe.refl _ | refine MLe.cons _ ?_ | refine MLe.drop _ ?_))) (by simp_all)
      · refine c_cond_t rfl ?_
        refine c_skip ?_
        refine go_code ?_
        refine c_seq ?_
        refine c_block ?_
        refine c_seq ?_
        obtain ⟨⟨⟨qk, qs, qn, qks, qp⟩, ⟨yk, yt, yn, ⟨ytk, yts, ytn, ytks⟩, yks, yal, ybs, yp⟩⟩, hx⟩ := get_some (l := al1) (i := i) (by omega)
        have hcx := Al.cellss_get hx
        have hqw := Al.e_w (List.mem_of_getElem? hx)
        rw [Al.q] at hqw
        have N1 := (tNames_c ⟨qk, qs, qn, qks, qp⟩ (by omega)).pure
        have N2 := (rNames_c ⟨qk, qs, qn, qks, qp⟩ (by omega)).pure
        have N3 := (Texts_c (Pa.names ⟨qk, qs, qn, qks, qp⟩) _).yes rfl
        generalize Pa.names ⟨qk, qs, qn, qks, qp⟩ = nm at *
        refine c_region ?_
        first | (refine AOps.st 15 rfl rfl rfl (op_index rfl te_57 rfl (.seq _ _) rfl rfl (by assumption) ?_)) | (refine AOps.st 15 rfl rfl rfl (op_index (i := 0) rfl te_57 rfl (.seq _ _) rfl rfl (by first | rfl | assumption) ?_)) | (refine AOps.st 15 rfl rfl rfl (op_index (i := 1) rfl te_57 rfl (.seq _ _) rfl rfl (by first | rfl | assumption) ?_)) | (refine AOps.st 15 rfl rfl rfl (op_index rfl te_57 rfl (.own _ _ _) rfl rfl (by assumption) ?_)) | (refine AOps.st 15 rfl rfl rfl (op_index (i := 0) rfl te_57 rfl (.own _ _ _) rfl rfl (by first | rfl | assumption) ?_)) | (refine AOps.st 15 rfl rfl rfl (op_index (i := 1) rfl te_57 rfl (.own _ _ _) rfl rfl (by first | rfl | assumption) ?_)) | (refine AOps.st 15 rfl rfl rfl (op_index_arr rfl te_57 rfl rfl rfl (by omega) ?_))
        first | (refine AOps.st 16 rfl rfl rfl (op_load_m (cs' := [_, _, _, _, _, _, _, _, _, _, _, _, _, _, _, _]) (i := 0) rfl ta_70 rfl rfl rfl rfl ?_)) | (refine AOps.st 16 rfl rfl rfl (op_load_m (cs' := [_, _, _, _, _, _, _, _, _, _, _, _, _, _, _, _]) (i := 1) rfl ta_70 rfl rfl rfl rfl ?_)) | (refine AOps.st 16 rfl rfl rfl (op_load_m (cs' := [_, _, _, _, _, _, _, _, _, _, _, _, _, _, _, _]) (i := 2) rfl ta_70 rfl rfl rfl rfl ?_)) | (refine AOps.st 16 rfl rfl rfl (op_load_m (cs' := [_, _, _, _, _, _, _, _, _, _, _, _, _, _, _, _]) (i := 3) rfl ta_70 rfl rfl rfl rfl ?_)) | (refine AOps.st 16 rfl rfl rfl (op_load_m (cs' := [_, _, _, _, _, _, _, _, _, _, _, _, _, _, _, _]) (i := 4) rfl ta_70 rfl rfl rfl rfl ?_)) | (refine AOps.st 16 rfl rfl rfl (op_load_m (cs' := [_, _, _, _, _, _, _, _, _, _, _, _, _, _, _, _]) (i := 5) rfl ta_70 rfl rfl rfl rfl ?_)) | (refine AOps.st 16 rfl rfl rfl (op_load_c (cs' := [_, _, _, _, _, _, _, _, _, _, _, _, _, _, _, _]) rfl ta_70 rfl rfl rfl ?_))
        refine AOps.st 4 rfl rfl rfl (op_alloce (cs' := [_, _, _, _, _, _, _, _, _, _, _, _, _, _, _, _]) rfl tz_70 rfl rfl ?_); intro b4
        first | (refine AOps.st0 rfl rfl (op_store (cs' := [_, _, _, _, _, _, _, _, _, _, _, _, _, _, _, _]) (i := 0) rfl ts_70 rfl rfl rfl rfl rfl (Nat.le_of_ble_eq_true rfl) rfl ?_)) | (refine AOps.st0 rfl rfl (op_store (cs' := [_, _, _, _, _, _, _, _, _, _, _, _, _, _, _, _]) (i := 1) rfl ts_70 rfl rfl rfl rfl rfl (Nat.le_of_ble_eq_true rfl) rfl ?_)) | (refine AOps.st0 rfl rfl (op_store (cs' := [_, _, _, _, _, _, _, _, _, _, _, _, _, _, _, _]) (i := 2) rfl ts_70 rfl rfl rfl rfl rfl (Nat.le_of_ble_eq_true rfl) rfl ?_)) | (refine AOps.st0 rfl rfl (op_store (cs' := [_, _, _, _, _, _, _, _, _, _, _, _, _, _, _, _]) (i := 3) rfl ts_70 rfl rfl rfl rfl rfl (Nat.le_of_ble_eq_true rfl) rfl ?_)) | (refine AOps.st0 rfl rfl (op_store (cs' := [_, _, _, _, _, _, _, _, _, _, _, _, _, _, _, _]) (i := 4) rfl ts_70 rfl rfl rfl rfl rfl (Nat.le_of_ble_eq_true rfl) rfl ?_)) | (refine AOps.st0 rfl rfl (op_store (cs' := [_, _, _, _, _, _, _, _, _, _, _, _, _, _, _, _]) (i := 5) rfl ts_70 rfl rfl rfl rfl rfl (Nat.le_of_ble_eq_true rfl) rfl ?_))
        refine AOps.nil ?_
        refine go_code ?_
        refine c_seq ?_
        refine c_drawn tmix rfl ?_
        first | (refine DOps.st 17 rfl rfl (op_fieldAddr_m rfl tf_70_0 rfl ⟨rfl, rfl⟩) ?_) | (refine DOps.st 17 rfl rfl (op_fieldAddr_c rfl tf_70_0 rfl rfl ⟨rfl, rfl⟩) ?_)
        first | (refine DOps.st 18 rfl rfl (op_load_m (cs' := [_, _, _, _, _]) (i := 0) rfl ta_68 rfl rfl rfl rfl ⟨rfl, rfl⟩) ?_) | (refine DOps.st 18 rfl rfl (op_load_m (cs' := [_, _, _, _, _]) (i := 1) rfl ta_68 rfl rfl rfl rfl ⟨rfl, rfl⟩) ?_) | (refine DOps.st 18 rfl rfl (op_load_m (cs' := [_, _, _, _, _]) (i := 2) rfl ta_68 rfl rfl rfl rfl ⟨rfl, rfl⟩) ?_) | (refine DOps.st 18 rfl rfl (op_load_m (cs' := [_, _, _, _, _]) (i := 3) rfl ta_68 rfl rfl rfl rfl ⟨rfl, rfl⟩) ?_) | (refine DOps.st 18 rfl rfl (op_load_m (cs' := [_, _, _, _, _]) (i := 4) rfl ta_68 rfl rfl rfl rfl ⟨rfl, rfl⟩) ?_) | (refine DOps.st 18 rfl rfl (op_load_m (cs' := [_, _, _, _, _]) (i := 5) rfl ta_68 rfl rfl rfl rfl ⟨rfl, rfl⟩) ?_) | (refine DOps.st 18 rfl rfl (op_load_c (cs' := [_, _, _, _, _]) rfl ta_68 rfl rfl rfl ⟨rfl, rfl⟩) ?_)
        refine DOps.st 19 rfl rfl (op_callp (xs := [.tmp 18]) rfl rfl (N1) (by first | exact Les.refl _ | (repeat' (first | exact Les.refl _ | refine Les.cons ?_ ?_ | exact Le.refl _ | exact Le.own _ _ _ | exact Le.nil _ | refine Le.agg ?_))) ⟨rfl, rfl⟩) ?_
        first | (refine DOps.st 20 rfl rfl (op_fieldAddr_m rfl tf_70_0 rfl ⟨rfl, rfl⟩) ?_) | (refine DOps.st 20 rfl rfl (op_fieldAddr_c rfl tf_70_0 rfl rfl ⟨rfl, rfl⟩) ?_)
        first | (refine DOps.st 21 rfl rfl (op_load_m (cs' := [_, _, _, _, _]) (i := 0) rfl ta_68 rfl rfl rfl rfl ⟨rfl, rfl⟩) ?_) | (refine DOps.st 21 rfl rfl (op_load_m (cs' := [_, _, _, _, _]) (i := 1) rfl ta_68 rfl rfl rfl rfl ⟨rfl, rfl⟩) ?_) | (refine DOps.st 21 rfl rfl (op_load_m (cs' := [_, _, _, _, _]) (i := 2) rfl ta_68 rfl rfl rfl rfl ⟨rfl, rfl⟩) ?_) | (refine DOps.st 21 rfl rfl (op_load_m (cs' := [_, _, _, _, _]) (i := 3) rfl ta_68 rfl rfl rfl rfl ⟨rfl, rfl⟩) ?_) | (refine DOps.st 21 rfl rfl (op_load_m (cs' := [_, _, _, _, _]) (i := 4) rfl ta_68 rfl rfl rfl rfl ⟨rfl, rfl⟩) ?_) | (refine DOps.st 21 rfl rfl (op_load_m (cs' := [_, _, _, _, _]) (i := 5) rfl ta_68 rfl rfl rfl rfl ⟨rfl, rfl⟩) ?_) | (refine DOps.st 21 rfl rfl (op_load_c (cs' := [_, _, _, _, _]) rfl ta_68 rfl rfl rfl ⟨rfl, rfl⟩) ?_)
        refine DOps.st 22 rfl rfl (op_callp (xs := [.tmp 21]) rfl rfl (N2) (by first | exact Les.refl _ | (repeat' (first | exact Les.refl _ | refine Les.cons ?_ ?_ | exact Le.refl _ | exact Le.own _ _ _ | exact Le.nil _ | refine Le.agg ?_))) ⟨rfl, rfl⟩) ?_
        refine DOps.st 23 rfl rfl (op_callp (xs := [.tmp 19, .tmp 22]) rfl rfl (N3) (by first | exact Les.refl _ | (repeat' (first | exact Les.refl _ | refine Les.cons ?_ ?_ | exact Le.refl _ | exact Le.own _ _ _ | exact Le.nil _ | refine Le.agg ?_))) ⟨rfl, rfl⟩) ?_
        refine DOps.cm 24 rfl rfl (fun _ q => op_notc rfl rfl q) ?_; intro c24 h24
        try replace h24 := nott h24 h23
        show AGo _ _ _ _ _ _ _
        refine go_code ?_
        rcases bool_split h24 with ⟨rfl, g24⟩ | ⟨rfl, g24⟩
        · refine c_cond_f rfl ?_
          refine c_skip ?_
          refine go_blk ?_
          refine go_code ?_
          refine c_region ?_
          first | (refine AOps.st 25 rfl rfl rfl (op_add rfl rfl rfl (IntWalk.i64_in _ (by omega)) ?_)) | (refine AOps.st 25 rfl rfl rfl (op_add rfl rfl rfl rfl ?_))
          refine AOps.st 13 rfl rfl rfl (op_move rfl rfl ?_)
          refine AOps.nil ?_
          refine go_lp ?_
          exact ⟨i + 1, by simp; omega, by simp; omega, (by repeat' (first | exact SLe.nil _ | refine SLe.cons rfl ?_ ?_ | exact Le.refl _ | exact Le.own _ _ _ | exact Le.nil _)), (by first | exact MLe.none _ | exact MLe.refl _ | (repeat' (first | exact MLe.nil | exact MLe.refl _ | refine MLe.cons _ ?_ | refine MLe.drop _ ?_)))⟩
        · refine c_cond_t rfl ?_
          refine c_seq ?_
          exact absurd g24 (by simp)
    · refine c_cond_t rfl ?_
      refine c_seq ?_
      refine c_region ?_
      refine AOps.st 2 rfl rfl rfl (op_assign rfl rfl ?_)
      refine AOps.nil ?_
      refine go_code ?_
      refine c_ret ?_
      exact out_tmp rfl rfl (Le.refl _) (by first | exact MLe.none _ | exact MLe.refl _ | (repeat' (first | exact MLe.nil | exact MLe.refl _ | refine MLe.cons _ ?_ | refine MLe.drop _ ?_))) rfl
  · refine c_cond_t rfl ?_
    refine c_seq ?_
    exact absurd g6 (by simp)
theorem treeNames_own : ownKnob Try.prog.godebug = none := by kernel_rfl
theorem treeNames_laidOut : laidOutB Try.prog = true := by kernel_rfl
set_option maxRecDepth 100000 in
theorem treeNames_lifted (os : Os) (started : os.Started) (H : Type) (enc : TypeId × Value → H) (F0 : Stop.Interp) :
    ReturnsInHanded {} Try.checked os 9 .any ((Rows.OpenSpec.upto Rows.treeNamesSpec).pre6 enc Try.prog Try.f9 Rows.treeNamesUptoRow.domain false) (((Rows.OpenSpec.upto Rows.treeNamesSpec).at F0).post enc Try.prog Try.f9 false true false false) := by
  refine returnsInHanded_of_cond_sized (C := Try.checked) (s := (Rows.OpenSpec.upto Rows.treeNamesSpec)) (k := Rows.uptoSmall) rfl treeNames_own started (by kernel_rfl) Try.func9
    (upto_witness (enc := enc) (C := Try.checked) (s := (Rows.OpenSpec.upto Rows.treeNamesSpec)) (k := Rows.uptoSmall) rfl false ⟨#[], #[.agg #[.int .i64 0, .string ⟨#[]⟩, .int .i64 0, .int .i64 0, .string ⟨#[]⟩, .int .i64 0, .slice none 0 0, .slice none 0 0, .slice none 0 0, .slice none 0 0, .int .i64 0]], []⟩ 8 (by kernel_rfl) (by kernel_rfl) (by kernel_rfl) (by kernel_rfl) (by kernel_rfl)) ?_
  intro W base args ds gs before hval0 hW hcnd hk hsz0 _
  have hval : ∀ (j : Nat) t v, Try.f9.params[j]? = some t → args[j]? = some v → Value.okWide Try.prog W .any base t v := hval0
  have hsz : (DataW.weightsEach Try.prog (Try.f9.params.toList ++ Rows.treeNamesSpec.plain.varTypes Try.prog) (ds ++ gs)).all (· ≤ reachBytes) = true := hsz0
  have hW' := hW
  obtain ⟨p, q, hA0, hV, rfl, hfz, hnd⟩ := hW
  have hA : DataW.TrodAll enc Try.prog W 0 (fun _ => true) true Try.f9.params.toList args.toList ds p := hA0
  rw [Try.params9] at hA hval hsz
  obtain ⟨rfl, rfl⟩ := trodVars_none hV
  obtain ⟨v0, d0, rfl, rfl, h0⟩ := trodAll_one hA
  obtain ⟨f0, c0, s0, r0, o0, b0⟩ := open_two closed05 hsz 0 rfl rfl (by decide) h0
  have hu := upto_le (j := 0) hk rfl
  obtain ⟨a, rfl, hLa⟩ := shapeL_ex _ (by decide) _ _ s0
  have hwb := Ex.w_bulk a
  refine (law_run (TreeNames_c a hLa (by omega)) (.cons (rel_agg' (by rw [Ex.cells_len]; decide) r0 o0) .nil)).mono fun e W' ⟨he, hb⟩ => ?_
  subst he
  exact ⟨_, rfl, law_post (s := Rows.treeNamesSpec) (tb := 4) treeNames_laidOut (by kernel_rfl) (by kernel_rfl) Try.underlying4 rfl rfl rfl rfl hW' hb⟩
theorem treeNames_holds : Rows.TreeNamesUptoSaid :=
  OpenClaim.holds_of_cond 9 Try.f9 rfl rfl rfl rfl rfl rfl rfl ⟨rfl, rfl, rfl, rfl, rfl⟩ rfl rfl rfl rfl rfl (by kernel_rfl) Try.func9 (by kernel_rfl)
    (of_decide_eq_true (by kernel_rfl)) (by unfold Func.isWrapper; first | (rw [if_pos (by decide +kernel)]; kernel_rfl) | (rw [if_neg (by decide +kernel)]; exact ⟨rfl, rfl⟩))
    (fun os started H enc _ F0 => treeNames_lifted os started H enc F0)
#print axioms treeNames_holds
end Go.Proofs.Ytjgjnheeohfmmaa
