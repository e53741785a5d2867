/- TreeBinds (where what it reads is of bulk at most 1048576): a function of a name has all free names of its body but that one; a let of it, too, behind those of what is bound; what is called is no value. -/
import Derived.Test.YtjgjnheeohfmmaaChecked
import Derived.Test.YtjgjnheeohfmmaaRows
import Derived.Test.YtjgjnheeohfmmaaAZ
import Derived.Test.YtjgjnheeohfmmaaAU
import Derived.Test.YtjgjnheeohfmmaaPK
import Derived.Test.YtjgjnheeohfmmaaOE
import Derived.Test.YtjgjnheeohfmmaaB05f
import Derived.Test.YtjgjnheeohfmmaaB05x
namespace Go.Proofs.Ytjgjnheeohfmmaa
open Go.ChangeShapes Go.WideShapes Go.ChangeAt Go.RowKit
abbrev bLam (s : Txt) (e : Ex) : Ex := .mk 6 s 0 tZ [e] [] [] 0
abbrev bLet (s : Txt) (e f : Ex) : Ex := .mk 7 ⟨#[]⟩ 0 tZ [e] [] [.mk s f 0] 0
abbrev bCall (s : Txt) (e f : Ex) : Ex := .mk 5 ⟨#[]⟩ 0 tZ [bLam s e, f] [] [] 0
theorem bLam_fr (s : Txt) (e : Ex) : (bLam s e).fr [] [] = wo (e.fr [] []) [s] := by
  have h := e.rf_nodup
  rw [Ex.free_eq, Ex.free_eq, Ex.rf]
  simp only [Al.rfs, Ex.rfs, Bi.rfs]
  simp [jn_nil, jn_id h]
  exact jn_id (h.filter _)
theorem bLet_fr (s : Txt) (e f : Ex) : (bLet s e f).fr [] [] = jn (f.fr [] []) (wo (e.fr [] []) [s]) := by
  have h := e.rf_nodup
  have h2 := f.rf_nodup
  rw [Ex.free_eq, Ex.free_eq, Ex.free_eq, Ex.rf]
  simp only [Al.rfs, Ex.rfs, Bi.rfs, Bi.rf, Bi.names]
  simp [jn_id h, jn_id h2, Bi.s]
theorem bLam_sz (s : Txt) (e : Ex) : (bLam s e).sz = 1 + e.sz := by
  rw [Ex.sz_eq]
  show 1 + (e.sz + 0) = _
  omega
theorem bCall_sz (s : Txt) (e f : Ex) : (bCall s e f).sz = e.sz + f.sz + 2 := by
  rw [Ex.sz_eq]
  show 1 + ((bLam s e).sz + (f.sz + 0)) = _
  rw [bLam_sz]; omega
theorem bLam_dp (s : Txt) (e : Ex) : (bLam s e).dp = e.dp + 1 := by
  rw [Ex.dp_eq]
  show 1 + max e.dp 0 = _
  omega
set_option maxHeartbeats 4000000 in
set_option maxRecDepth 100000 in
theorem TreeBinds_c (e f : Ex) (s : Txt) (hL : e.Lim) (hLf : f.Lim) (hw : e.w ≤ 1048576) (hwf : f.w ≤ 1048576) : ACall Try.prog 10 [.agg e.cells, .agg f.cells, .val (.string s)] [] (fun v _ => v = .val (.bool true)) := by
  have HA := Small5_c e 300 hL (by omega) (by omega)
  have HB := Small5_c f 300 hLf (by omega) (by omega)
  have F1 := (Free_c e (by omega)).pure
  have F2 := (Free_c f (by omega)).pure
  have F3 := (Free_c (bLam s e) (by simp only [Ex.w, Ex.ws, Al.ws, Bi.ws]; omega)).pure
  have F4 := (Free_c (bLet s e f) (by simp only [Ex.w, Ex.ws, Al.ws, Bi.ws, Bi.w]; omega)).pure
  rw [bLam_fr] at F3
  rw [bLet_fr] at F4
  have hle := Ex.fr_len e [] []
  have hlf := Ex.fr_len f [] []
  have V1 : PCall Try.prog 54 [.agg (bLam s e).cells] (.val (.bool true)) := (tValue_c _).yes (by simp [Ex.val_iff])
  have V2 : PCall Try.prog 54 [.agg (bCall s e f).cells] (.val (.bool false)) := (tValue_c _).no (by simp [Ex.val_iff, Ex.kind])
  have V3 : PCall Try.prog 54 [.agg (bLet s e f).cells] (.val (.bool false)) := (tValue_c _).no (by simp [Ex.val_iff])
  have zle := e.sz_le
  have zlf := f.sz_le
  have zde := e.dp_le
  have S1 : e.full ≤ 300 → PCall Try.prog 41 [.agg e.cells] (.val (.int .i64 e.sz)) := fun h => Size_c e (by omega)
  have S2 : f.full ≤ 300 → PCall Try.prog 41 [.agg f.cells] (.val (.int .i64 f.sz)) := fun h => Size_c f (by omega)
  have S3 : e.full ≤ 300 → f.full ≤ 300 → PCall Try.prog 41 [.agg (bCall s e f).cells] (.val (.int .i64 (e.sz + f.sz + 2 : Nat))) := fun h h' => by
    have := Size_c (bCall s e f) (by rw [bCall_sz]; omega)
    rwa [bCall_sz] at this
  have D1 : e.full ≤ 300 → PCall Try.prog 43 [.agg e.cells] (.val (.int .i64 e.dp)) := fun h => Deep_c e (by omega)
  have D2 : e.full ≤ 300 → PCall Try.prog 43 [.agg (bLam s e).cells] (.val (.int .i64 (e.dp + 1 : Nat))) := fun h => by
    have := Deep_c (bLam s e) (by rw [bLam_sz]; omega)
    rwa [bLam_dp] at this
  generalize e.fr [] [] = fe at *
  generalize f.fr [] [] = ff at *
  have T1 := (Texts_c (wo fe [s]) _).yes rfl
  have T2 := (Texts_c (jn ff (wo fe [s])) _).yes rfl
  have hwo := wo_len fe [s]
  have hlfe := strs_len fe
  generalize e.full = fa at *
  generalize f.full = fb at *
  generalize e.sz = ze at *
  generalize f.sz = zf at *
  generalize e.dp = de at *
  simp only [List.length_nil] at hle hlf
  have J1 := (Join_c ff (wo fe [s]) (by omega)).pure
  obtain ⟨k1, s1, n1, ⟨tk1, ts1, tn1, tks1⟩, ks1, al1, bs1, p1⟩ := e
  obtain ⟨k2, s2, n2, ⟨tk2, ts2, tn2, tks2⟩, ks2, al2, bs2, p2⟩ := f
  refine ACall.enter Try.func10 rfl (by kernel_rfl) rfl (Nat.le_of_ble_eq_true rfl) ?_
  refine c_start ?_
  refine c_seq ?_
  refine c_region ?_
  refine AOps.st 3 rfl rfl rfl (op_boxc (cs' := [_, _, _, _, _, _, _, _, _, _, _]) rfl rfl rfl rfl ?_)
  refine AOps.st 4 rfl rfl rfl (op_boxc (cs' := [_, _, _, _, _, _, _, _, _, _, _]) rfl rfl rfl rfl ?_)
  refine AOps.st 6 rfl rfl rfl (op_assign rfl rfl ?_)
  refine AOps.nil ?_
  refine go_code ?_
  refine c_seq ?_
  refine c_seq ?_
  refine c_region ?_
  refine AOps.st 14 rfl rfl rfl (op_callp (xs := []) rfl rfl (awake05_c) (by first | exact Les.refl _ | (repeat' (first | exact Les.refl _ | refine Les.cons ?_ ?_ | exact Le.refl _ | exact Le.own _ _ _ | exact Le.nil _ | refine Le.agg ?_))) ?_)
  refine AOps.st 15 rfl rfl rfl (op_notc rfl rfl ?_); intro c15 h15
  try replace h15 := nott h15 h14
  refine AOps.nil ?_
  refine go_code ?_
  rcases bool_split h15 with ⟨rfl, g15⟩ | ⟨rfl, g15⟩
  · refine c_cond_f rfl ?_
    refine c_skip ?_
    refine go_code ?_
    refine c_seq ?_
    refine c_seq ?_
    refine c_bool 23 (¬ ((fa : Int) ≤ 300 ∧ (fb : Int) ≤ 300)) ?_ _ _ rfl ?_
    · skip
      refine AOps.st 16 rfl rfl rfl (op_load_c (cs' := [_, _, _, _, _, _, _, _, _, _, _]) rfl ta_60 rfl rfl rfl ?_)
      refine AOps.st 17 rfl rfl rfl (op_callb (xs := [.tmp 16, .const (.int .i64 300)]) rfl rfl (HA) (by first | exact Les.refl _ | (repeat' (first | exact Les.refl _ | refine Les.cons ?_ ?_ | exact Le.refl _ | exact Le.own _ _ _ | exact Le.nil _ | refine Le.agg ?_))) ?_); intro c17 h17
      refine AOps.st 18 rfl rfl rfl (op_notc rfl rfl ?_); intro c18 h18
      try replace h18 := nott h18 h17
      refine AOps.st 19 rfl rfl rfl (op_move rfl rfl ?_)
      rcases bool_split h18 with ⟨rfl, g18⟩ | ⟨rfl, g18⟩
      · skip
        refine AOps.gt 20 rfl rfl rfl rfl rfl (op_load_c (cs' := [_, _, _, _, _, _, _, _, _, _, _]) rfl ta_60 rfl rfl rfl ?_)
        refine AOps.gt 21 rfl rfl rfl rfl rfl (op_callb (xs := [.tmp 20, .const (.int .i64 300)]) rfl rfl (HB) (by first | exact Les.refl _ | (repeat' (first | exact Les.refl _ | refine Les.cons ?_ ?_ | exact Le.refl _ | exact Le.own _ _ _ | exact Le.nil _ | refine Le.agg ?_))) ?_); intro c21 h21
        refine AOps.gt 22 rfl rfl rfl rfl rfl (op_notc rfl rfl ?_); intro c22 h22
        try replace h22 := nott h22 h21
        refine AOps.st 23 rfl rfl rfl (op_pick rfl rfl rfl ?_)
        refine AOps.nil ?_
        refine BoolQ.mk rfl ?_ (by repeat' (first | exact SLe.wo _ _ | exact SLe.refl _ | refine SLe.fresh rfl ?_)) (by first | exact MLe.none _ | exact MLe.refl _ | (repeat' (first | exact MLe.nil | exact MLe.refl _ | refine MLe.cons _ ?_ | refine MLe.drop _ ?_)))
        first | (simp_all; done) | (simp_all; omega)
      · skip
        refine AOps.gf 20 rfl rfl rfl rfl rfl ?_
        refine AOps.gf 21 rfl rfl rfl rfl rfl ?_
        refine AOps.gf 22 rfl rfl rfl rfl rfl ?_
        refine AOps.st 23 rfl rfl rfl (op_pick rfl rfl rfl ?_)
        refine AOps.nil ?_
        refine BoolQ.mk rfl ?_ (by repeat' (first | exact SLe.wo _ _ | exact SLe.refl _ | refine SLe.fresh rfl ?_)) (by first | exact MLe.none _ | exact MLe.refl _ | (repeat' (first | exact MLe.nil | exact MLe.refl _ | refine MLe.cons _ ?_ | refine MLe.drop _ ?_)))
        first | (simp_all; done) | (simp_all; omega)
    intro c23 h23
    refine go_code ?_
    rcases bool_split h23 with ⟨rfl, g23⟩ | ⟨rfl, g23⟩
    · refine c_cond_f rfl ?_
      refine c_skip ?_
      refine go_code ?_
      refine c_seq ?_
      refine c_region ?_
      refine AOps.st 7 rfl rfl rfl (op_assign rfl rfl ?_)
      refine AOps.nil ?_
      refine go_code ?_
      refine c_seq ?_
      refine c_seq ?_
      refine ACode.ownNil (t := 7) 9 1 rfl ?_
      have S1 := S1 (by omega)
      have S2 := S2 (by omega)
      have S3 := S3 (by omega) (by omega)
      have D1 := D1 (by omega)
      have D2 := D2 (by omega)
      refine c_region ?_
      refine AOps.st 24 rfl rfl rfl (op_load_c (cs' := [_, _, _, _, _, _, _, _, _, _, _]) rfl ta_60 rfl rfl rfl ?_)
      refine AOps.st 25 rfl rfl rfl (op_callp (xs := [.tmp 24]) rfl rfl (F1) (by first | exact Les.refl _ | (repeat' (first | exact Les.refl _ | refine Les.cons ?_ ?_ | exact Le.refl _ | exact Le.own _ _ _ | exact Le.nil _ | refine Le.agg ?_))) ?_)
      first | (refine AOps.st 26 rfl rfl rfl (op_len rfl tu_27 rfl (.seq _ _) (fun n26 => ?_))) | (refine AOps.st 26 rfl rfl rfl (op_len rfl tu_27 rfl (.own _ _ _) (fun n26 => ?_))) | (refine AOps.st 26 rfl rfl rfl (op_len rfl tu_27 rfl (.nil 0) (fun n26 => ?_))) | (refine AOps.st 26 rfl rfl rfl (op_len_arr rfl tu_27 rfl ?_))
      refine AOps.st 27 rfl rfl rfl (op_move rfl rfl ?_)
      refine AOps.nil ?_
      refine go_code ?_
      refine c_block ?_
      refine c_loop (σ := Nat × List Txt × Value) (fun zz => match zz with | (i, o, u) => [(2, .val (.string s)), (3, .cptr (Ex.mk k1 s1 n1 ⟨tk1, ts1, tn1, tks1⟩ ks1 al1 bs1 p1).cells), (4, .cptr (Ex.mk k2 s2 n2 ⟨tk2, ts2, tn2, tks2⟩ ks2 al2 bs2 p2).cells), (25, .seq 1 (strs fe)), (26, .val (.int .i64 (strs fe).length)), (27, .val (.int .i64 i)), (7, .own u 1 (strs o))]) (fun zz => match zz with | (i, o, u) => [.own 9 1 u]) (fun zz => match zz with | (i, o, u) => i ≤ fe.length ∧ o.length ≤ i ∧ o ++ wo (fe.drop i) [s] = wo fe [s]) (fun zz => match zz with | (i, o, u) => fe.length - i) ((0, [], .slice none 0 0)) ?_ ?_ ?_ ?_
      · exact ⟨by omega, by simp, rfl⟩
      · exact (by repeat' (first | exact SLe.nil _ | refine SLe.cons rfl ?_ ?_ | exact Le.refl _ | exact Le.own _ _ _ | exact Le.nil _))
      · exact (by first | exact MLe.none _ | exact MLe.refl _ | (repeat' (first | exact MLe.nil | exact MLe.refl _ | refine MLe.cons _ ?_ | refine MLe.drop _ ?_)))
      rintro ⟨i, o, u⟩ hI
      try dsimp only at hI ⊢
      obtain ⟨hi, ho, hj⟩ := hI
      refine c_seq ?_
      refine c_region ?_
      refine AOps.st 28 rfl rfl rfl (op_lss rfl rfl rfl ?_); intro c28 h28
      refine AOps.nil ?_
      refine go_code ?_
      refine c_seq ?_
      rcases bool_split h28 with ⟨rfl, g28⟩ | ⟨rfl, g28⟩
      · refine c_cond_f rfl ?_
        refine c_exit ?_
        refine x_code ?_
        refine x_lp ?_
        refine x_here ?_
        refine go_code ?_
        refine c_seq ?_
        have hlast : o = wo fe [s] := by
          rw [← hj, List.drop_eq_nil_of_le (by omega)]; simp [wo]
        subst hlast
        refine c_region ?_
        refine AOps.st 39 rfl rfl rfl (op_move rfl rfl ?_)
        refine AOps.st 40 rfl rfl rfl (op_load_c (cs' := [_, _, _, _, _, _, _, _, _, _, _]) rfl ta_60 rfl rfl rfl ?_)
        refine AOps.st 41 rfl rfl rfl (op_buildSlice (xs := [.tmp 40]) el_56 rfl rfl rfl rfl rfl rfl (Nat.le_of_ble_eq_true rfl) ?_)
        refine AOps.st 42 rfl rfl rfl (op_build (ns := [0, 1, 4]) (xs := [.const (.int .i64 6), .tmp 39, .tmp 41]) rfl tz_60 rfl tfl_60 rfl rfl rfl rfl ?_)
        refine AOps.st 10 rfl rfl rfl (op_alloce (cs' := [_, _, _, _, _, _, _, _, _, _, _]) rfl tz_60 rfl rfl ?_); intro b10
        first | (refine AOps.st0 rfl rfl (op_store (cs' := [_, _, _, _, _, _, _, _, _, _, _]) (i := 0) rfl ts_60 rfl rfl rfl rfl rfl (Nat.le_of_ble_eq_true rfl) rfl ?_)) | (refine AOps.st0 rfl rfl (op_store (cs' := [_, _, _, _, _, _, _, _, _, _, _]) (i := 1) rfl ts_60 rfl rfl rfl rfl rfl (Nat.le_of_ble_eq_true rfl) rfl ?_)) | (refine AOps.st0 rfl rfl (op_store (cs' := [_, _, _, _, _, _, _, _, _, _, _]) (i := 2) rfl ts_60 rfl rfl rfl rfl rfl (Nat.le_of_ble_eq_true rfl) rfl ?_)) | (refine AOps.st0 rfl rfl (op_store (cs' := [_, _, _, _, _, _, _, _, _, _, _]) (i := 3) rfl ts_60 rfl rfl rfl rfl rfl (Nat.le_of_ble_eq_true rfl) rfl ?_)) | (refine AOps.st0 rfl rfl (op_store (cs' := [_, _, _, _, _, _, _, _, _, _, _]) (i := 4) rfl ts_60 rfl rfl rfl rfl rfl (Nat.le_of_ble_eq_true rfl) rfl ?_)) | (refine AOps.st0 rfl rfl (op_store (cs' := [_, _, _, _, _, _, _, _, _, _, _]) (i := 5) rfl ts_60 rfl rfl rfl rfl rfl (Nat.le_of_ble_eq_true rfl) rfl ?_))
        refine AOps.nil ?_
        refine go_code ?_
        refine c_seq ?_
        refine c_le (SLe.refl _) (MLe.loc _ (cs' := (bLam s (Ex.mk k1 s1 n1 ⟨tk1, ts1, tn1, tks1⟩ ks1 al1 bs1 p1)).cells) (by repeat' (first | exact Le.refl _ | exact Le.nil _ | refine Le.agg ?_ | refine Le.seq ?_ | exact Less.nil | refine Less.cons ?_ rfl ?_ | exact Les.refl _ | refine Les.cons ?_ ?_)) (MLe.refl _)) ?_
        refine c_region ?_
        refine AOps.st 43 rfl rfl rfl (op_move rfl rfl ?_)
        refine AOps.st 44 rfl rfl rfl (op_load_c (cs' := [_, _, _, _, _, _, _, _, _, _, _]) rfl ta_60 rfl rfl rfl ?_)
        refine AOps.st 45 rfl rfl rfl (op_build (ns := [0, 1]) (xs := [.tmp 43, .tmp 44]) rfl tz_74 rfl tfl_74 rfl rfl rfl rfl ?_)
        refine AOps.st 46 rfl rfl rfl (op_buildSlice (xs := [.tmp 45]) el_58 rfl rfl rfl rfl rfl rfl (Nat.le_of_ble_eq_true rfl) ?_)
        refine AOps.st 47 rfl rfl rfl (op_load_c (cs' := [_, _, _, _, _, _, _, _, _, _, _]) rfl ta_60 rfl rfl rfl ?_)
        refine AOps.st 48 rfl rfl rfl (op_buildSlice (xs := [.tmp 47]) el_56 rfl rfl rfl rfl rfl rfl (Nat.le_of_ble_eq_true rfl) ?_)
        refine AOps.st 49 rfl rfl rfl (op_build (ns := [0, 6, 4]) (xs := [.const (.int .i64 7), .tmp 46, .tmp 48]) rfl tz_60 rfl tfl_60 rfl rfl rfl rfl ?_)
        refine AOps.st 11 rfl rfl rfl (op_alloce (cs' := [_, _, _, _, _, _, _, _, _, _, _]) rfl tz_60 rfl rfl ?_); intro b11
        first | (refine AOps.st0 rfl rfl (op_store (cs' := [_, _, _, _, _, _, _, _, _, _, _]) (i := 0) rfl ts_60 rfl rfl rfl rfl rfl (Nat.le_of_ble_eq_true rfl) rfl ?_)) | (refine AOps.st0 rfl rfl (op_store (cs' := [_, _, _, _, _, _, _, _, _, _, _]) (i := 1) rfl ts_60 rfl rfl rfl rfl rfl (Nat.le_of_ble_eq_true rfl) rfl ?_)) | (refine AOps.st0 rfl rfl (op_store (cs' := [_, _, _, _, _, _, _, _, _, _, _]) (i := 2) rfl ts_60 rfl rfl rfl rfl rfl (Nat.le_of_ble_eq_true rfl) rfl ?_)) | (refine AOps.st0 rfl rfl (op_store (cs' := [_, _, _, _, _, _, _, _, _, _, _]) (i := 3) rfl ts_60 rfl rfl rfl rfl rfl (Nat.le_of_ble_eq_true rfl) rfl ?_)) | (refine AOps.st0 rfl rfl (op_store (cs' := [_, _, _, _, _, _, _, _, _, _, _]) (i := 4) rfl ts_60 rfl rfl rfl rfl rfl (Nat.le_of_ble_eq_true rfl) rfl ?_)) | (refine AOps.st0 rfl rfl (op_store (cs' := [_, _, _, _, _, _, _, _, _, _, _]) (i := 5) rfl ts_60 rfl rfl rfl rfl rfl (Nat.le_of_ble_eq_true rfl) rfl ?_))
        refine AOps.nil ?_
        refine go_code ?_
        refine c_seq ?_
        refine c_le (SLe.refl _) (MLe.loc _ (cs' := (bLet s (Ex.mk k1 s1 n1 ⟨tk1, ts1, tn1, tks1⟩ ks1 al1 bs1 p1) (Ex.mk k2 s2 n2 ⟨tk2, ts2, tn2, tks2⟩ ks2 al2 bs2 p2)).cells) (by repeat' (first | exact Le.refl _ | exact Le.nil _ | refine Le.agg ?_ | refine Le.seq ?_ | exact Less.nil | refine Less.cons ?_ rfl ?_ | exact Les.refl _ | refine Les.cons ?_ ?_)) (MLe.refl _)) ?_
        refine c_region ?_
        first | (refine AOps.st 50 rfl rfl rfl (op_load_m (cs' := [_, _, _, _, _, _, _, _, _, _, _]) (i := 0) rfl ta_60 rfl rfl rfl rfl ?_)) | (refine AOps.st 50 rfl rfl rfl (op_load_m (cs' := [_, _, _, _, _, _, _, _, _, _, _]) (i := 1) rfl ta_60 rfl rfl rfl rfl ?_)) | (refine AOps.st 50 rfl rfl rfl (op_load_m (cs' := [_, _, _, _, _, _, _, _, _, _, _]) (i := 2) rfl ta_60 rfl rfl rfl rfl ?_)) | (refine AOps.st 50 rfl rfl rfl (op_load_m (cs' := [_, _, _, _, _, _, _, _, _, _, _]) (i := 3) rfl ta_60 rfl rfl rfl rfl ?_)) | (refine AOps.st 50 rfl rfl rfl (op_load_m (cs' := [_, _, _, _, _, _, _, _, _, _, _]) (i := 4) rfl ta_60 rfl rfl rfl rfl ?_)) | (refine AOps.st 50 rfl rfl rfl (op_load_m (cs' := [_, _, _, _, _, _, _, _, _, _, _]) (i := 5) rfl ta_60 rfl rfl rfl rfl ?_)) | (refine AOps.st 50 rfl rfl rfl (op_load_c (cs' := [_, _, _, _, _, _, _, _, _, _, _]) rfl ta_60 rfl rfl rfl ?_))
        refine AOps.st 51 rfl rfl rfl (op_load_c (cs' := [_, _, _, _, _, _, _, _, _, _, _]) rfl ta_60 rfl rfl rfl ?_)
        refine AOps.st 52 rfl rfl rfl (op_buildSlice (xs := [.tmp 50, .tmp 51]) el_56 rfl rfl rfl rfl rfl rfl (Nat.le_of_ble_eq_true rfl) ?_)
        refine AOps.st 53 rfl rfl rfl (op_build (ns := [0, 4]) (xs := [.const (.int .i64 5), .tmp 52]) rfl tz_60 rfl tfl_60 rfl rfl rfl rfl ?_)
        refine AOps.st 12 rfl rfl rfl (op_alloce (cs' := [_, _, _, _, _, _, _, _, _, _, _]) rfl tz_60 rfl rfl ?_); intro b12
        first | (refine AOps.st0 rfl rfl (op_store (cs' := [_, _, _, _, _, _, _, _, _, _, _]) (i := 0) rfl ts_60 rfl rfl rfl rfl rfl (Nat.le_of_ble_eq_true rfl) rfl ?_)) | (refine AOps.st0 rfl rfl (op_store (cs' := [_, _, _, _, _, _, _, _, _, _, _]) (i := 1) rfl ts_60 rfl rfl rfl rfl rfl (Nat.le_of_ble_eq_true rfl) rfl ?_)) | (refine AOps.st0 rfl rfl (op_store (cs' := [_, _, _, _, _, _, _, _, _, _, _]) (i := 2) rfl ts_60 rfl rfl rfl rfl rfl (Nat.le_of_ble_eq_true rfl) rfl ?_)) | (refine AOps.st0 rfl rfl (op_store (cs' := [_, _, _, _, _, _, _, _, _, _, _]) (i := 3) rfl ts_60 rfl rfl rfl rfl rfl (Nat.le_of_ble_eq_true rfl) rfl ?_)) | (refine AOps.st0 rfl rfl (op_store (cs' := [_, _, _, _, _, _, _, _, _, _, _]) (i := 4) rfl ts_60 rfl rfl rfl rfl rfl (Nat.le_of_ble_eq_true rfl) rfl ?_)) | (refine AOps.st0 rfl rfl (op_store (cs' := [_, _, _, _, _, _, _, _, _, _, _]) (i := 5) rfl ts_60 rfl rfl rfl rfl rfl (Nat.le_of_ble_eq_true rfl) rfl ?_))
        refine AOps.nil ?_
        refine go_code ?_
        refine c_seq ?_
        refine c_le (SLe.refl _) (MLe.loc _ (cs' := (bCall s (Ex.mk k1 s1 n1 ⟨tk1, ts1, tn1, tks1⟩ ks1 al1 bs1 p1) (Ex.mk k2 s2 n2 ⟨tk2, ts2, tn2, tks2⟩ ks2 al2 bs2 p2)).cells) (by repeat' (first | exact Le.refl _ | exact Le.nil _ | refine Le.agg ?_ | refine Le.seq ?_ | exact Less.nil | refine Less.cons ?_ rfl ?_ | exact Les.refl _ | refine Les.cons ?_ ?_)) (MLe.refl _)) ?_
        refine c_region ?_
        refine AOps.st 54 rfl rfl rfl (op_load_c (cs' := [_, _, _, _, _, _, _, _, _, _, _]) rfl ta_60 rfl rfl rfl ?_)
        refine AOps.st 55 rfl rfl rfl (op_callp (xs := [.tmp 54]) rfl rfl (F2) (by first | exact Les.refl _ | (repeat' (first | exact Les.refl _ | refine Les.cons ?_ ?_ | exact Le.refl _ | exact Le.own _ _ _ | exact Le.nil _ | refine Le.agg ?_))) ?_)
        refine AOps.st 56 rfl rfl rfl (op_move rfl rfl ?_)
        refine AOps.st 57 rfl rfl rfl (op_callp (xs := [.tmp 55, .tmp 56]) rfl rfl (J1) (by first | exact Les.refl _ | (repeat' (first | exact Les.refl _ | refine Les.cons ?_ ?_ | exact Le.refl _ | exact Le.own _ _ _ | exact Le.nil _ | refine Le.agg ?_))) ?_)
        refine AOps.st 13 rfl rfl rfl (op_assign rfl rfl ?_)
        refine AOps.nil ?_
        refine go_code ?_
        refine c_seq ?_
        refine c_boold 6 (True) tmix rfl ?_ _ _ rfl ?_
        · skip
          first | (refine DOps.st 58 rfl rfl (op_load_m (cs' := [_, _, _, _, _, _, _, _, _, _, _]) (i := 0) rfl ta_60 rfl rfl rfl rfl ⟨rfl, rfl⟩) ?_) | (refine DOps.st 58 rfl rfl (op_load_m (cs' := [_, _, _, _, _, _, _, _, _, _, _]) (i := 1) rfl ta_60 rfl rfl rfl rfl ⟨rfl, rfl⟩) ?_) | (refine DOps.st 58 rfl rfl (op_load_m (cs' := [_, _, _, _, _, _, _, _, _, _, _]) (i := 2) rfl ta_60 rfl rfl rfl rfl ⟨rfl, rfl⟩) ?_) | (refine DOps.st 58 rfl rfl (op_load_m (cs' := [_, _, _, _, _, _, _, _, _, _, _]) (i := 3) rfl ta_60 rfl rfl rfl rfl ⟨rfl, rfl⟩) ?_) | (refine DOps.st 58 rfl rfl (op_load_m (cs' := [_, _, _, _, _, _, _, _, _, _, _]) (i := 4) rfl ta_60 rfl rfl rfl rfl ⟨rfl, rfl⟩) ?_) | (refine DOps.st 58 rfl rfl (op_load_m (cs' := [_, _, _, _, _, _, _, _, _, _, _]) (i := 5) rfl ta_60 rfl rfl rfl rfl ⟨rfl, rfl⟩) ?_) | (refine DOps.st 58 rfl rfl (op_load_c (cs' := [_, _, _, _, _, _, _, _, _, _, _]) rfl ta_60 rfl rfl rfl ⟨rfl, rfl⟩) ?_)
          refine DOps.st 59 rfl rfl (op_callp (xs := [.tmp 58]) rfl rfl (F3) (by first | exact Les.refl _ | (repeat' (first | exact Les.refl _ | refine Les.cons ?_ ?_ | exact Le.refl _ | exact Le.own _ _ _ | exact Le.nil _ | refine Le.agg ?_))) ⟨rfl, rfl⟩) ?_
          refine DOps.st 60 rfl rfl (op_move rfl rfl ⟨rfl, rfl⟩) ?_
          refine DOps.st 61 rfl rfl (op_callp (xs := [.tmp 59, .tmp 60]) rfl rfl (T1) (by first | exact Les.refl _ | (repeat' (first | exact Les.refl _ | refine Les.cons ?_ ?_ | exact Le.refl _ | exact Le.own _ _ _ | exact Le.nil _ | refine Le.agg ?_))) ⟨rfl, rfl⟩) ?_
          refine DOps.st 62 rfl rfl (op_move rfl rfl ⟨rfl, rfl⟩) ?_
          first | (refine DOps.gt 63 rfl rfl rfl rfl (op_load_m (cs' := [_, _, _, _, _, _, _, _, _, _, _]) (i := 0) rfl ta_60 rfl rfl rfl rfl ⟨rfl, rfl⟩) ?_) | (refine DOps.gt 63 rfl rfl rfl rfl (op_load_m (cs' := [_, _, _, _, _, _, _, _, _, _, _]) (i := 1) rfl ta_60 rfl rfl rfl rfl ⟨rfl, rfl⟩) ?_) | (refine DOps.gt 63 rfl rfl rfl rfl (op_load_m (cs' := [_, _, _, _, _, _, _, _, _, _, _]) (i := 2) rfl ta_60 rfl rfl rfl rfl ⟨rfl, rfl⟩) ?_) | (refine DOps.gt 63 rfl rfl rfl rfl (op_load_m (cs' := [_, _, _, _, _, _, _, _, _, _, _]) (i := 3) rfl ta_60 rfl rfl rfl rfl ⟨rfl, rfl⟩) ?_) | (refine DOps.gt 63 rfl rfl rfl rfl (op_load_m (cs' := [_, _, _, _, _, _, _, _, _, _, _]) (i := 4) rfl ta_60 rfl rfl rfl rfl ⟨rfl, rfl⟩) ?_) | (refine DOps.gt 63 rfl rfl rfl rfl (op_load_m (cs' := [_, _, _, _, _, _, _, _, _, _, _]) (i := 5) rfl ta_60 rfl rfl rfl rfl ⟨rfl, rfl⟩) ?_) | (refine DOps.gt 63 rfl rfl rfl rfl (op_load_c (cs' := [_, _, _, _, _, _, _, _, _, _, _]) rfl ta_60 rfl rfl rfl ⟨rfl, rfl⟩) ?_)
          refine DOps.gt 64 rfl rfl rfl rfl (op_callp (xs := [.tmp 63]) rfl rfl (F4) (by first | exact Les.refl _ | (repeat' (first | exact Les.refl _ | refine Les.cons ?_ ?_ | exact Le.refl _ | exact Le.own _ _ _ | exact Le.nil _ | refine Le.agg ?_))) ⟨rfl, rfl⟩) ?_
          refine DOps.gt 65 rfl rfl rfl rfl (op_move rfl rfl ⟨rfl, rfl⟩) ?_
          refine DOps.gt 66 rfl rfl rfl rfl (op_callp (xs := [.tmp 64, .tmp 65]) rfl rfl (T2) (by first | exact Les.refl _ | (repeat' (first | exact Les.refl _ | refine Les.cons ?_ ?_ | exact Le.refl _ | exact Le.own _ _ _ | exact Le.nil _ | refine Le.agg ?_))) ⟨rfl, rfl⟩) ?_
          refine DOps.st 67 rfl rfl (op_pick rfl rfl rfl ⟨rfl, rfl⟩) ?_
          refine DOps.st 68 rfl rfl (op_move rfl rfl ⟨rfl, rfl⟩) ?_
          first | (refine DOps.gt 69 rfl rfl rfl rfl (op_load_m (cs' := [_, _, _, _, _, _, _, _, _, _, _]) (i := 0) rfl ta_60 rfl rfl rfl rfl ⟨rfl, rfl⟩) ?_) | (refine DOps.gt 69 rfl rfl rfl rfl (op_load_m (cs' := [_, _, _, _, _, _, _, _, _, _, _]) (i := 1) rfl ta_60 rfl rfl rfl rfl ⟨rfl, rfl⟩) ?_) | (refine DOps.gt 69 rfl rfl rfl rfl (op_load_m (cs' := [_, _, _, _, _, _, _, _, _, _, _]) (i := 2) rfl ta_60 rfl rfl rfl rfl ⟨rfl, rfl⟩) ?_) | (refine DOps.gt 69 rfl rfl rfl rfl (op_load_m (cs' := [_, _, _, _, _, _, _, _, _, _, _]) (i := 3) rfl ta_60 rfl rfl rfl rfl ⟨rfl, rfl⟩) ?_) | (refine DOps.gt 69 rfl rfl rfl rfl (op_load_m (cs' := [_, _, _, _, _, _, _, _, _, _, _]) (i := 4) rfl ta_60 rfl rfl rfl rfl ⟨rfl, rfl⟩) ?_) | (refine DOps.gt 69 rfl rfl rfl rfl (op_load_m (cs' := [_, _, _, _, _, _, _, _, _, _, _]) (i := 5) rfl ta_60 rfl rfl rfl rfl ⟨rfl, rfl⟩) ?_) | (refine DOps.gt 69 rfl rfl rfl rfl (op_load_c (cs' := [_, _, _, _, _, _, _, _, _, _, _]) rfl ta_60 rfl rfl rfl ⟨rfl, rfl⟩) ?_)
          refine DOps.gt 70 rfl rfl rfl rfl (op_callp (xs := [.tmp 69]) rfl rfl (V1) (by first | exact Les.refl _ | (repeat' (first | exact Les.refl _ | refine Les.cons ?_ ?_ | exact Le.refl _ | exact Le.own _ _ _ | exact Le.nil _ | refine Le.agg ?_))) ⟨rfl, rfl⟩) ?_
          refine DOps.st 71 rfl rfl (op_pick rfl rfl rfl ⟨rfl, rfl⟩) ?_
          refine DOps.st 72 rfl rfl (op_move rfl rfl ⟨rfl, rfl⟩) ?_
          first | (refine DOps.gt 73 rfl rfl rfl rfl (op_load_m (cs' := [_, _, _, _, _, _, _, _, _, _, _]) (i := 0) rfl ta_60 rfl rfl rfl rfl ⟨rfl, rfl⟩) ?_) | (refine DOps.gt 73 rfl rfl rfl rfl (op_load_m (cs' := [_, _, _, _, _, _, _, _, _, _, _]) (i := 1) rfl ta_60 rfl rfl rfl rfl ⟨rfl, rfl⟩) ?_) | (refine DOps.gt 73 rfl rfl rfl rfl (op_load_m (cs' := [_, _, _, _, _, _, _, _, _, _, _]) (i := 2) rfl ta_60 rfl rfl rfl rfl ⟨rfl, rfl⟩) ?_) | (refine DOps.gt 73 rfl rfl rfl rfl (op_load_m (cs' := [_, _, _, _, _, _, _, _, _, _, _]) (i := 3) rfl ta_60 rfl rfl rfl rfl ⟨rfl, rfl⟩) ?_) | (refine DOps.gt 73 rfl rfl rfl rfl (op_load_m (cs' := [_, _, _, _, _, _, _, _, _, _, _]) (i := 4) rfl ta_60 rfl rfl rfl rfl ⟨rfl, rfl⟩) ?_) | (refine DOps.gt 73 rfl rfl rfl rfl (op_load_m (cs' := [_, _, _, _, _, _, _, _, _, _, _]) (i := 5) rfl ta_60 rfl rfl rfl rfl ⟨rfl, rfl⟩) ?_) | (refine DOps.gt 73 rfl rfl rfl rfl (op_load_c (cs' := [_, _, _, _, _, _, _, _, _, _, _]) rfl ta_60 rfl rfl rfl ⟨rfl, rfl⟩) ?_)
          refine DOps.gt 74 rfl rfl rfl rfl (op_callp (xs := [.tmp 73]) rfl rfl (V2) (by first | exact Les.refl _ | (repeat' (first | exact Les.refl _ | refine Les.cons ?_ ?_ | exact Le.refl _ | exact Le.own _ _ _ | exact Le.nil _ | refine Le.agg ?_))) ⟨rfl, rfl⟩) ?_
          refine DOps.gtc 75 rfl rfl rfl rfl (fun _ q => op_notc rfl rfl q) ?_; intro c75 h75
          try replace h75 := nott h75 h74
          refine DOps.st 76 rfl rfl (op_pick rfl rfl rfl ⟨rfl, rfl⟩) ?_
          refine DOps.st 77 rfl rfl (op_move rfl rfl ⟨rfl, rfl⟩) ?_
          rcases bool_split h75 with ⟨rfl, g75⟩ | ⟨rfl, g75⟩
          · skip
            refine DOps.gf 78 rfl rfl rfl rfl ?_
            refine DOps.gf 79 rfl rfl rfl rfl ?_
            refine DOps.gf 80 rfl rfl rfl rfl ?_
            refine DOps.st 81 rfl rfl (op_pick rfl rfl rfl ⟨rfl, rfl⟩) ?_
            refine DOps.st 82 rfl rfl (op_move rfl rfl ⟨rfl, rfl⟩) ?_
            refine DOps.gf 83 rfl rfl rfl rfl ?_
            refine DOps.gf 84 rfl rfl rfl rfl ?_
            refine DOps.gf 85 rfl rfl rfl rfl ?_
            refine DOps.gf 86 rfl rfl rfl rfl ?_
            refine DOps.gf 87 rfl rfl rfl rfl ?_
            refine DOps.gf 88 rfl rfl rfl rfl ?_
            refine DOps.gf 89 rfl rfl rfl rfl ?_
            refine DOps.gf 90 rfl rfl rfl rfl ?_
            refine DOps.gf 91 rfl rfl rfl rfl ?_
            refine DOps.st 92 rfl rfl (op_pick rfl rfl rfl ⟨rfl, rfl⟩) ?_
            refine DOps.st 93 rfl rfl (op_move rfl rfl ⟨rfl, rfl⟩) ?_
            refine DOps.gf 94 rfl rfl rfl rfl ?_
            refine DOps.gf 95 rfl rfl rfl rfl ?_
            refine DOps.gf 96 rfl rfl rfl rfl ?_
            refine DOps.gf 97 rfl rfl rfl rfl ?_
            refine DOps.gf 98 rfl rfl rfl rfl ?_
            refine DOps.gf 99 rfl rfl rfl rfl ?_
            refine DOps.st 100 rfl rfl (op_pick rfl rfl rfl ⟨rfl, rfl⟩) ?_
            refine DOps.st 6 rfl rfl (op_assign rfl rfl ⟨rfl, rfl⟩) ?_
            show BoolQ _ _ _ _ _ _
            refine BoolQ.mk rfl ?_ (by repeat' (first | exact SLe.wo _ _ | exact SLe.refl _ | refine SLe.fresh rfl ?_)) (by first | exact MLe.none _ | exact MLe.refl _ | (repeat' (first | exact MLe.nil | exact MLe.refl _ | refine MLe.cons _ ?_ | refine MLe.drop _ ?_)))
            first | (simp_all; done) | (simp_all; omega)
          · skip
            first | (refine DOps.gt 78 rfl rfl rfl rfl (op_load_m (cs' := [_, _, _, _, _, _, _, _, _, _, _]) (i := 0) rfl ta_60 rfl rfl rfl rfl ⟨rfl, rfl⟩) ?_) | (refine DOps.gt 78 rfl rfl rfl rfl (op_load_m (cs' := [_, _, _, _, _, _, _, _, _, _, _]) (i := 1) rfl ta_60 rfl rfl rfl rfl ⟨rfl, rfl⟩) ?_) | (refine DOps.gt 78 rfl rfl rfl rfl (op_load_m (cs' := [_, _, _, _, _, _, _, _, _, _, _]) (i := 2) rfl ta_60 rfl rfl rfl rfl ⟨rfl, rfl⟩) ?_) | (refine DOps.gt 78 rfl rfl rfl rfl (op_load_m (cs' := [_, _, _, _, _, _, _, _, _, _, _]) (i := 3) rfl ta_60 rfl rfl rfl rfl ⟨rfl, rfl⟩) ?_) | (refine DOps.gt 78 rfl rfl rfl rfl (op_load_m (cs' := [_, _, _, _, _, _, _, _, _, _, _]) (i := 4) rfl ta_60 rfl rfl rfl rfl ⟨rfl, rfl⟩) ?_) | (refine DOps.gt 78 rfl rfl rfl rfl (op_load_m (cs' := [_, _, _, _, _, _, _, _, _, _, _]) (i := 5) rfl ta_60 rfl rfl rfl rfl ⟨rfl, rfl⟩) ?_) | (refine DOps.gt 78 rfl rfl rfl rfl (op_load_c (cs' := [_, _, _, _, _, _, _, _, _, _, _]) rfl ta_60 rfl rfl rfl ⟨rfl, rfl⟩) ?_)
            refine DOps.gt 79 rfl rfl rfl rfl (op_callp (xs := [.tmp 78]) rfl rfl (V3) (by first | exact Les.refl _ | (repeat' (first | exact Les.refl _ | refine Les.cons ?_ ?_ | exact Le.refl _ | exact Le.own _ _ _ | exact Le.nil _ | refine Le.agg ?_))) ⟨rfl, rfl⟩) ?_
            refine DOps.gtc 80 rfl rfl rfl rfl (fun _ q => op_notc rfl rfl q) ?_; intro c80 h80
            try replace h80 := nott h80 h79
            refine DOps.st 81 rfl rfl (op_pick rfl rfl rfl ⟨rfl, rfl⟩) ?_
            refine DOps.st 82 rfl rfl (op_move rfl rfl ⟨rfl, rfl⟩) ?_
            rcases bool_split h80 with ⟨rfl, g80⟩ | ⟨rfl, g80⟩
            · skip
              refine DOps.gf 83 rfl rfl rfl rfl ?_
              refine DOps.gf 84 rfl rfl rfl rfl ?_
              refine DOps.gf 85 rfl rfl rfl rfl ?_
              refine DOps.gf 86 rfl rfl rfl rfl ?_
              refine DOps.gf 87 rfl rfl rfl rfl ?_
              refine DOps.gf 88 rfl rfl rfl rfl ?_
              refine DOps.gf 89 rfl rfl rfl rfl ?_
              refine DOps.gf 90 rfl rfl rfl rfl ?_
              refine DOps.gf 91 rfl rfl rfl rfl ?_
              refine DOps.st 92 rfl rfl (op_pick rfl rfl rfl ⟨rfl, rfl⟩) ?_
              refine DOps.st 93 rfl rfl (op_move rfl rfl ⟨rfl, rfl⟩) ?_
              refine DOps.gf 94 rfl rfl rfl rfl ?_
              refine DOps.gf 95 rfl rfl rfl rfl ?_
              refine DOps.gf 96 rfl rfl rfl rfl ?_
              refine DOps.gf 97 rfl rfl rfl rfl ?_
              refine DOps.gf 98 rfl rfl rfl rfl ?_
              refine DOps.gf 99 rfl rfl rfl rfl ?_
              refine DOps.st 100 rfl rfl (op_pick rfl rfl rfl ⟨rfl, rfl⟩) ?_
              refine DOps.st 6 rfl rfl (op_assign rfl rfl ⟨rfl, rfl⟩) ?_
              show BoolQ _ _ _ _ _ _
              refine BoolQ.mk rfl ?_ (by repeat' (first | exact SLe.wo _ _ | exact SLe.refl _ | refine SLe.fresh rfl ?_)) (by first | exact MLe.none _ | exact MLe.refl _ | (repeat' (first | exact MLe.nil | exact MLe.refl _ | refine MLe.cons _ ?_ | refine MLe.drop _ ?_)))
              first | (simp_all; done) | (simp_all; omega)
            · skip
              first | (refine DOps.gt 83 rfl rfl rfl rfl (op_load_m (cs' := [_, _, _, _, _, _, _, _, _, _, _]) (i := 0) rfl ta_60 rfl rfl rfl rfl ⟨rfl, rfl⟩) ?_) | (refine DOps.gt 83 rfl rfl rfl rfl (op_load_m (cs' := [_, _, _, _, _, _, _, _, _, _, _]) (i := 1) rfl ta_60 rfl rfl rfl rfl ⟨rfl, rfl⟩) ?_) | (refine DOps.gt 83 rfl rfl rfl rfl (op_load_m (cs' := [_, _, _, _, _, _, _, _, _, _, _]) (i := 2) rfl ta_60 rfl rfl rfl rfl ⟨rfl, rfl⟩) ?_) | (refine DOps.gt 83 rfl rfl rfl rfl (op_load_m (cs' := [_, _, _, _, _, _, _, _, _, _, _]) (i := 3) rfl ta_60 rfl rfl rfl rfl ⟨rfl, rfl⟩) ?_) | (refine DOps.gt 83 rfl rfl rfl rfl (op_load_m (cs' := [_, _, _, _, _, _, _, _, _, _, _]) (i := 4) rfl ta_60 rfl rfl rfl rfl ⟨rfl, rfl⟩) ?_) | (refine DOps.gt 83 rfl rfl rfl rfl (op_load_m (cs' := [_, _, _, _, _, _, _, _, _, _, _]) (i := 5) rfl ta_60 rfl rfl rfl rfl ⟨rfl, rfl⟩) ?_) | (refine DOps.gt 83 rfl rfl rfl rfl (op_load_c (cs' := [_, _, _, _, _, _, _, _, _, _, _]) rfl ta_60 rfl rfl rfl ⟨rfl, rfl⟩) ?_)
              refine DOps.gt 84 rfl rfl rfl rfl (op_callp (xs := [.tmp 83]) rfl rfl (S3) (by first | exact Les.refl _ | (repeat' (first | exact Les.refl _ | refine Les.cons ?_ ?_ | exact Le.refl _ | exact Le.own _ _ _ | exact Le.nil _ | refine Le.agg ?_))) ⟨rfl, rfl⟩) ?_
              refine DOps.gt 85 rfl rfl rfl rfl (op_load_c (cs' := [_, _, _, _, _, _, _, _, _, _, _]) rfl ta_60 rfl rfl rfl ⟨rfl, rfl⟩) ?_
              refine DOps.gt 86 rfl rfl rfl rfl (op_callp (xs := [.tmp 85]) rfl rfl (S1) (by first | exact Les.refl _ | (repeat' (first | exact Les.refl _ | refine Les.cons ?_ ?_ | exact Le.refl _ | exact Le.own _ _ _ | exact Le.nil _ | refine Le.agg ?_))) ⟨rfl, rfl⟩) ?_
              refine DOps.gt 87 rfl rfl rfl rfl (op_load_c (cs' := [_, _, _, _, _, _, _, _, _, _, _]) rfl ta_60 rfl rfl rfl ⟨rfl, rfl⟩) ?_
              refine DOps.gt 88 rfl rfl rfl rfl (op_callp (xs := [.tmp 87]) rfl rfl (S2) (by first | exact Les.refl _ | (repeat' (first | exact Les.refl _ | refine Les.cons ?_ ?_ | exact Le.refl _ | exact Le.own _ _ _ | exact Le.nil _ | refine Le.agg ?_))) ⟨rfl, rfl⟩) ?_
              first | (refine DOps.gt 89 rfl rfl rfl rfl (op_add rfl rfl rfl (IntWalk.i64_in _ (by omega)) ⟨rfl, rfl⟩) ?_) | (refine DOps.gt 89 rfl rfl rfl rfl (op_add rfl rfl rfl rfl ⟨rfl, rfl⟩) ?_)
              first | (refine DOps.gt 90 rfl rfl rfl rfl (op_add rfl rfl rfl (IntWalk.i64_in _ (by omega)) ⟨rfl, rfl⟩) ?_) | (refine DOps.gt 90 rfl rfl rfl rfl (op_add rfl rfl rfl rfl ⟨rfl, rfl⟩) ?_)
              refine DOps.gtc 91 rfl rfl rfl rfl (fun _ q => op_eql rfl rfl rfl q) ?_; intro c91 h91
              refine DOps.st 92 rfl rfl (op_pick rfl rfl rfl ⟨rfl, rfl⟩) ?_
              refine DOps.st 93 rfl rfl (op_move rfl rfl ⟨rfl, rfl⟩) ?_
              rcases bool_split h91 with ⟨rfl, g91⟩ | ⟨rfl, g91⟩
              · skip
                refine DOps.gf 94 rfl rfl rfl rfl ?_
                refine DOps.gf 95 rfl rfl rfl rfl ?_
                refine DOps.gf 96 rfl rfl rfl rfl ?_
                refine DOps.gf 97 rfl rfl rfl rfl ?_
                refine DOps.gf 98 rfl rfl rfl rfl ?_
                refine DOps.gf 99 rfl rfl rfl rfl ?_
                refine DOps.st 100 rfl rfl (op_pick rfl rfl rfl ⟨rfl, rfl⟩) ?_
                refine DOps.st 6 rfl rfl (op_assign rfl rfl ⟨rfl, rfl⟩) ?_
                show BoolQ _ _ _ _ _ _
                refine BoolQ.mk rfl ?_ (by repeat' (first | exact SLe.wo _ _ | exact SLe.refl _ | refine SLe.fresh rfl ?_)) (by first | exact MLe.none _ | exact MLe.refl _ | (repeat' (first | exact MLe.nil | exact MLe.refl _ | refine MLe.cons _ ?_ | refine MLe.drop _ ?_)))
                first | (simp_all; done) | (simp_all; omega)
              · skip
                first | (refine DOps.gt 94 rfl rfl rfl rfl (op_load_m (cs' := [_, _, _, _, _, _, _, _, _, _, _]) (i := 0) rfl ta_60 rfl rfl rfl rfl ⟨rfl, rfl⟩) ?_) | (refine DOps.gt 94 rfl rfl rfl rfl (op_load_m (cs' := [_, _, _, _, _, _, _, _, _, _, _]) (i := 1) rfl ta_60 rfl rfl rfl rfl ⟨rfl, rfl⟩) ?_) | (refine DOps.gt 94 rfl rfl rfl rfl (op_load_m (cs' := [_, _, _, _, _, _, _, _, _, _, _]) (i := 2) rfl ta_60 rfl rfl rfl rfl ⟨rfl, rfl⟩) ?_) | (refine DOps.gt 94 rfl rfl rfl rfl (op_load_m (cs' := [_, _, _, _, _, _, _, _, _, _, _]) (i := 3) rfl ta_60 rfl rfl rfl rfl ⟨rfl, rfl⟩) ?_) | (refine DOps.gt 94 rfl rfl rfl rfl (op_load_m (cs' := [_, _, _, _, _, _, _, _, _, _, _]) (i := 4) rfl ta_60 rfl rfl rfl rfl ⟨rfl, rfl⟩) ?_) | (refine DOps.gt 94 rfl rfl rfl rfl (op_load_m (cs' := [_, _, _, _, _, _, _, _, _, _, _]) (i := 5) rfl ta_60 rfl rfl rfl rfl ⟨rfl, rfl⟩) ?_) | (refine DOps.gt 94 rfl rfl rfl rfl (op_load_c (cs' := [_, _, _, _, _, _, _, _, _, _, _]) rfl ta_60 rfl rfl rfl ⟨rfl, rfl⟩) ?_)
                refine DOps.gt 95 rfl rfl rfl rfl (op_callp (xs := [.tmp 94]) rfl rfl (D2) (by first | exact Les.refl _ | (repeat' (first | exact Les.refl _ | refine Les.cons ?_ ?_ | exact Le.refl _ | exact Le.own _ _ _ | exact Le.nil _ | refine Le.agg ?_))) ⟨rfl, rfl⟩) ?_
                refine DOps.gt 96 rfl rfl rfl rfl (op_load_c (cs' := [_, _, _, _, _, _, _, _, _, _, _]) rfl ta_60 rfl rfl rfl ⟨rfl, rfl⟩) ?_
                refine DOps.gt 97 rfl rfl rfl rfl (op_callp (xs := [.tmp 96]) rfl rfl (D1) (by first | exact Les.refl _ | (repeat' (first | exact Les.refl _ | refine Les.cons ?_ ?_ | exact Le.refl _ | exact Le.own _ _ _ | exact Le.nil _ | refine Le.agg ?_))) ⟨rfl, rfl⟩) ?_
                first | (refine DOps.gt 98 rfl rfl rfl rfl (op_add rfl rfl rfl (IntWalk.i64_in _ (by omega)) ⟨rfl, rfl⟩) ?_) | (refine DOps.gt 98 rfl rfl rfl rfl (op_add rfl rfl rfl rfl ⟨rfl, rfl⟩) ?_)
                refine DOps.gtc 99 rfl rfl rfl rfl (fun _ q => op_eql rfl rfl rfl q) ?_; intro c99 h99
                refine DOps.st 100 rfl rfl (op_pick rfl rfl rfl ⟨rfl, rfl⟩) ?_
                refine DOps.st 6 rfl rfl (op_assign rfl rfl ⟨rfl, rfl⟩) ?_
                show BoolQ _ _ _ _ _ _
                refine BoolQ.mk rfl ?_ (by repeat' (first | exact SLe.wo _ _ | exact SLe.refl _ | refine SLe.fresh rfl ?_)) (by first | exact MLe.none _ | exact MLe.refl _ | (repeat' (first | exact MLe.nil | exact MLe.refl _ | refine MLe.cons _ ?_ | refine MLe.drop _ ?_)))
                first | (simp_all; done) | (simp_all; omega)
        intro c6 h6
        refine go_code ?_
        refine c_ret ?_
        exact out_tmp rfl rfl (Le.refl _) (by first | exact MLe.none _ | exact MLe.refl _ | (repeat' (first | exact MLe.nil | exact MLe.refl _ | refine MLe.cons _ ?_ | refine MLe.drop _ ?_))) (by simp_all)
      · refine c_cond_t rfl ?_
        refine c_skip ?_
        refine go_code ?_
        refine c_seq ?_
        refine c_block ?_
        refine c_seq ?_
        obtain ⟨x, hx⟩ := get_some (l := fe) (i := i) (by omega)
        have hcx := strs_get hx
        have hlo := strs_len o
        have hst : wo (fe.drop i) [s] = (if x = s then [] else [x]) ++ wo (fe.drop (i + 1)) [s] := by
          rw [drop_get hx]
          by_cases q : x = s <;> simp [wo, q]
        refine c_region ?_
        first | (refine AOps.st 29 rfl rfl rfl (op_index rfl te_27 rfl (.seq _ _) rfl rfl (by assumption) ?_)) | (refine AOps.st 29 rfl rfl rfl (op_index (i := 0) rfl te_27 rfl (.seq _ _) rfl rfl (by first | rfl | assumption) ?_)) | (refine AOps.st 29 rfl rfl rfl (op_index (i := 1) rfl te_27 rfl (.seq _ _) rfl rfl (by first | rfl | assumption) ?_)) | (refine AOps.st 29 rfl rfl rfl (op_index rfl te_27 rfl (.own _ _ _) rfl rfl (by assumption) ?_)) | (refine AOps.st 29 rfl rfl rfl (op_index (i := 0) rfl te_27 rfl (.own _ _ _) rfl rfl (by first | rfl | assumption) ?_)) | (refine AOps.st 29 rfl rfl rfl (op_index (i := 1) rfl te_27 rfl (.own _ _ _) rfl rfl (by first | rfl | assumption) ?_)) | (refine AOps.st 29 rfl rfl rfl (op_index_arr rfl te_27 rfl rfl rfl (by omega) ?_))
        first | (refine AOps.st 30 rfl rfl rfl (op_load_m1 (i := 0) rfl ta_9 rfl rfl rfl ?_)) | (refine AOps.st 30 rfl rfl rfl (op_load_m1 (i := 1) rfl ta_9 rfl rfl rfl ?_)) | (refine AOps.st 30 rfl rfl rfl (op_load_m1 (i := 2) rfl ta_9 rfl rfl rfl ?_)) | (refine AOps.st 30 rfl rfl rfl (op_load_m1 (i := 3) rfl ta_9 rfl rfl rfl ?_)) | (refine AOps.st 30 rfl rfl rfl (op_load_m1 (i := 4) rfl ta_9 rfl rfl rfl ?_)) | (refine AOps.st 30 rfl rfl rfl (op_load_m1 (i := 5) rfl ta_9 rfl rfl rfl ?_)) | (refine AOps.st 30 rfl rfl rfl (op_load_c1 rfl ta_9 rfl rfl ?_))
        refine AOps.st 9 rfl rfl rfl (op_assign rfl rfl ?_)
        refine AOps.nil ?_
        refine go_code ?_
        refine c_seq ?_
        refine c_region ?_
        refine AOps.st 31 rfl rfl rfl (op_move rfl rfl ?_)
        refine AOps.st 32 rfl rfl rfl (op_move rfl rfl ?_)
        refine AOps.st 33 rfl rfl rfl (op_sneq rfl rfl rfl ?_); intro c33 h33
        refine AOps.nil ?_
        refine go_code ?_
        rcases bool_split h33 with ⟨rfl, g33⟩ | ⟨rfl, g33⟩
        · refine c_cond_f rfl ?_
          refine c_skip ?_
          refine go_blk ?_
          refine go_code ?_
          refine c_region ?_
          first | (refine AOps.st 38 rfl rfl rfl (op_add rfl rfl rfl (IntWalk.i64_in _ (by omega)) ?_)) | (refine AOps.st 38 rfl rfl rfl (op_add rfl rfl rfl rfl ?_))
          refine AOps.st 27 rfl rfl rfl (op_move rfl rfl ?_)
          refine AOps.nil ?_
          refine go_lp ?_
          first | exact ⟨(i + 1, o ++ [x], u37), ⟨by dsimp only; omega, by rw [List.length_append, List.length_singleton]; dsimp only; omega, by rw [← hj, hst, if_neg g33]; simp⟩, by simp; omega, (by repeat' (first | exact SLe.nil _ | refine SLe.cons rfl ?_ ?_ | exact Le.refl _ | exact Le.own _ _ _ | exact Le.nil _ | (refine Le.own_eq ?_; (rw [strs_app]; rfl)) | (refine Le.own_seq ?_; (rw [strs_app]; rfl)) | (refine Le.seq_eq ?_; (rw [strs_app]; rfl)))), (by first | exact MLe.none _ | exact MLe.refl _ | (repeat' (first | exact MLe.nil | exact MLe.refl _ | refine MLe.cons _ ?_ | refine MLe.drop _ ?_)))⟩ | exact ⟨(i + 1, o, u), ⟨by dsimp only; omega, by dsimp only; omega, by rw [← hj, hst, if_pos (Classical.not_not.1 g33)]; simp⟩, by simp; omega, (by repeat' (first | exact SLe.nil _ | refine SLe.cons rfl ?_ ?_ | exact Le.refl _ | exact Le.own _ _ _ | exact Le.nil _)), (by first | exact MLe.none _ | exact MLe.refl _ | (repeat' (first | exact MLe.nil | exact MLe.refl _ | refine MLe.cons _ ?_ | refine MLe.drop _ ?_)))⟩
        · refine c_cond_t rfl ?_
          refine c_region ?_
          refine AOps.st 34 rfl rfl rfl (op_move rfl rfl ?_)
          refine AOps.st 35 rfl rfl rfl (op_move rfl rfl ?_)
          refine AOps.st 36 rfl rfl rfl (op_buildSlice (xs := [.tmp 35]) el_27 rfl rfl rfl rfl rfl rfl (Nat.le_of_ble_eq_true rfl) ?_)
          first | (refine AOps.st 37 rfl rfl rfl (op_append (i := 0) el_27 rfl rfl rfl rfl (.seq _ _) (by simp only [List.length_map, List.length_reverse, List.length_cons, List.length_nil]; omega) ?_)) | (refine AOps.st 37 rfl rfl rfl (op_append (i := 1) el_27 rfl rfl rfl rfl (.seq _ _) (by simp only [List.length_map, List.length_reverse, List.length_cons, List.length_nil]; omega) ?_)) | (refine AOps.st 37 rfl rfl rfl (op_append (i := 2) el_27 rfl rfl rfl rfl (.seq _ _) (by simp only [List.length_map, List.length_reverse, List.length_cons, List.length_nil]; omega) ?_)) | (refine AOps.st 37 rfl rfl rfl (op_append (i := 3) el_27 rfl rfl rfl rfl (.seq _ _) (by simp only [List.length_map, List.length_reverse, List.length_cons, List.length_nil]; omega) ?_)) | (refine AOps.st 37 rfl rfl rfl (op_append (i := 0) el_27 rfl rfl rfl rfl (.own _ _ _) (by simp only [List.length_map, List.length_reverse, List.length_cons, List.length_nil]; omega) ?_)) | (refine AOps.st 37 rfl rfl rfl (op_append (i := 1) el_27 rfl rfl rfl rfl (.own _ _ _) (by simp only [List.length_map, List.length_reverse, List.length_cons, List.length_nil]; omega) ?_)) | (refine AOps.st 37 rfl rfl rfl (op_append (i := 2) el_27 rfl rfl rfl rfl (.own _ _ _) (by simp only [List.length_map, List.length_reverse, List.length_cons, List.length_nil]; omega) ?_)) | (refine AOps.st 37 rfl rfl rfl (op_append (i := 3) el_27 rfl rfl rfl rfl (.own _ _ _) (by simp only [List.length_map, List.length_reverse, List.length_cons, List.length_nil]; omega) ?_)) | (refine AOps.st 37 rfl rfl rfl (op_append (i := 0) el_27 rfl rfl rfl rfl (.nil _) (by simp only [List.length_map, List.length_reverse, List.length_cons, List.length_nil]; omega) ?_)) | (refine AOps.st 37 rfl rfl rfl (op_append (i := 1) el_27 rfl rfl rfl rfl (.nil _) (by simp only [List.length_map, List.length_reverse, List.length_cons, List.length_nil]; omega) ?_)) | (refine AOps.st 37 rfl rfl rfl (op_append (i := 2) el_27 rfl rfl rfl rfl (.nil _) (by simp only [List.length_map, List.length_reverse, List.length_cons, List.length_nil]; omega) ?_)) | (refine AOps.st 37 rfl rfl rfl (op_append (i := 3) el_27 rfl rfl rfl rfl (.nil _) (by simp only [List.length_map, List.length_reverse, List.length_cons, List.length_nil]; omega) ?_)) | (refine AOps.st 37 rfl rfl rfl (op_append_nil el_27 rfl rfl rfl (.seq _ _) (by simp only [List.length_map, List.length_reverse, List.length_cons, List.length_nil]; omega) ?_)) | (refine AOps.st 37 rfl rfl rfl (op_append_nil el_27 rfl rfl rfl (.own _ _ _) (by simp only [List.length_map, List.length_reverse, List.length_cons, List.length_nil]; omega) ?_)) | (refine AOps.st 37 rfl rfl rfl (op_append_nil el_27 rfl rfl rfl (.nil _) (by simp only [List.length_map, List.length_reverse, List.length_cons, List.length_nil]; omega) ?_))
          intro u37
          refine AOps.st 7 rfl rfl rfl (op_assign rfl rfl ?_)
          refine AOps.nil ?_
          refine go_blk ?_
          refine go_code ?_
          refine c_region ?_
          first | (refine AOps.st 38 rfl rfl rfl (op_add rfl rfl rfl (IntWalk.i64_in _ (by omega)) ?_)) | (refine AOps.st 38 rfl rfl rfl (op_add rfl rfl rfl rfl ?_))
          refine AOps.st 27 rfl rfl rfl (op_move rfl rfl ?_)
          refine AOps.nil ?_
          refine go_lp ?_
          first | exact ⟨(i + 1, o ++ [x], u37), ⟨by dsimp only; omega, by rw [List.length_append, List.length_singleton]; dsimp only; omega, by rw [← hj, hst, if_neg g33]; simp⟩, by simp; omega, (by repeat' (first | exact SLe.nil _ | refine SLe.cons rfl ?_ ?_ | exact Le.refl _ | exact Le.own _ _ _ | exact Le.nil _ | (refine Le.own_eq ?_; (rw [strs_app]; rfl)) | (refine Le.own_seq ?_; (rw [strs_app]; rfl)) | (refine Le.seq_eq ?_; (rw [strs_app]; rfl)))), (by first | exact MLe.none _ | exact MLe.refl _ | (repeat' (first | exact MLe.nil | exact MLe.refl _ | refine MLe.cons _ ?_ | refine MLe.drop _ ?_)))⟩ | exact ⟨(i + 1, o, u), ⟨by dsimp only; omega, by dsimp only; omega, by rw [← hj, hst, if_pos (Classical.not_not.1 g33)]; simp⟩, by simp; omega, (by repeat' (first | exact SLe.nil _ | refine SLe.cons rfl ?_ ?_ | exact Le.refl _ | exact Le.own _ _ _ | exact Le.nil _)), (by first | exact MLe.none _ | exact MLe.refl _ | (repeat' (first | exact MLe.nil | exact MLe.refl _ | refine MLe.cons _ ?_ | refine MLe.drop _ ?_)))⟩
    · refine c_cond_t rfl ?_
      refine c_seq ?_
      refine c_region ?_
      refine AOps.st 6 rfl rfl rfl (op_assign rfl rfl ?_)
      refine AOps.nil ?_
      refine go_code ?_
      refine c_ret ?_
      exact out_tmp rfl rfl (Le.refl _) (by first | exact MLe.none _ | exact MLe.refl _ | (repeat' (first | exact MLe.nil | exact MLe.refl _ | refine MLe.cons _ ?_ | refine MLe.drop _ ?_))) rfl
  · refine c_cond_t rfl ?_
    refine c_seq ?_
    exact absurd g15 (by simp)
theorem treeBinds_own : ownKnob Try.prog.godebug = none := by kernel_rfl
theorem treeBinds_laidOut : laidOutB Try.prog = true := by kernel_rfl
set_option maxRecDepth 100000 in
theorem treeBinds_lifted (os : Os) (started : os.Started) (H : Type) (enc : TypeId × Value → H) (F0 : Stop.Interp) :
    ReturnsInHanded {} Try.checked os 10 .any ((Rows.OpenSpec.upto Rows.treeBindsSpec).pre6 enc Try.prog Try.f10 Rows.treeBindsUptoRow.domain false) (((Rows.OpenSpec.upto Rows.treeBindsSpec).at F0).post enc Try.prog Try.f10 false true false false) := by
  refine returnsInHanded_of_cond_sized (C := Try.checked) (s := (Rows.OpenSpec.upto Rows.treeBindsSpec)) (k := Rows.uptoSmall) rfl treeBinds_own started (by kernel_rfl) Try.func10
    (upto_witness (enc := enc) (C := Try.checked) (s := (Rows.OpenSpec.upto Rows.treeBindsSpec)) (k := Rows.uptoSmall) rfl false ⟨#[], #[.agg #[.int .i64 0, .string ⟨#[]⟩, .int .i64 0, .int .i64 0, .string ⟨#[]⟩, .int .i64 0, .slice none 0 0, .slice none 0 0, .slice none 0 0, .slice none 0 0, .int .i64 0], .agg #[.int .i64 0, .string ⟨#[]⟩, .int .i64 0, .int .i64 0, .string ⟨#[]⟩, .int .i64 0, .slice none 0 0, .slice none 0 0, .slice none 0 0, .slice none 0 0, .int .i64 0], .string ⟨#[]⟩], []⟩ 8 (by kernel_rfl) (by kernel_rfl) (by kernel_rfl) (by kernel_rfl) (by kernel_rfl)) ?_
  intro W base args ds gs before hval0 hW hcnd hk hsz0 _
  have hval : ∀ (j : Nat) t v, Try.f10.params[j]? = some t → args[j]? = some v → Value.okWide Try.prog W .any base t v := hval0
  have hsz : (DataW.weightsEach Try.prog (Try.f10.params.toList ++ Rows.treeBindsSpec.plain.varTypes Try.prog) (ds ++ gs)).all (· ≤ reachBytes) = true := hsz0
  have hW' := hW
  obtain ⟨p, q, hA0, hV, rfl, hfz, hnd⟩ := hW
  have hA : DataW.TrodAll enc Try.prog W 0 (fun _ => true) true Try.f10.params.toList args.toList ds p := hA0
  rw [Try.params10] at hA hval hsz
  obtain ⟨rfl, rfl⟩ := trodVars_none hV
  obtain ⟨v0, v1, v2, d0, d1, d2, p0, p1, p2, rfl, rfl, rfl, h0, h1, h2⟩ := trodAll_three hA
  obtain ⟨f0, c0, s0, r0, o0, b0⟩ := open_two closed05 hsz 0 rfl rfl (by decide) h0
  have hu0 := upto_le (j := 0) hk rfl
  obtain ⟨a, rfl, hLa⟩ := shapeL_ex _ (by decide) _ _ s0
  have hwa := Ex.w_bulk a
  obtain ⟨f1, c1, s1, r1, o1, b1⟩ := open_two closed05 hsz 1 rfl rfl (by decide) h1
  have hu1 := upto_le (j := 1) hk rfl
  obtain ⟨b, rfl, hLb⟩ := shapeL_ex _ (by decide) _ _ s1
  have hwb := Ex.w_bulk b
  obtain ⟨s, rfl, rfl, rfl, hs⟩ := Go.ChangeMaps.open_string Try.underlying9 (hval 2 9 v2 rfl rfl) h2
  refine (law_run (TreeBinds_c a b s hLa hLb (by omega) (by omega)) (.cons (rel_agg' (by rw [Ex.cells_len]; decide) r0 o0) (.cons (rel_agg' (by rw [Ex.cells_len]; decide) r1 o1) (.cons (.val _) .nil)))).mono fun e W' ⟨he, hb⟩ => ?_
  subst he
  exact ⟨_, rfl, law_post (s := Rows.treeBindsSpec) (tb := 4) treeBinds_laidOut (by kernel_rfl) (by kernel_rfl) Try.underlying4 rfl rfl rfl rfl hW' hb⟩
theorem treeBinds_holds : Rows.TreeBindsUptoSaid :=
  OpenClaim.holds_of_cond 10 Try.f10 rfl rfl rfl rfl rfl rfl rfl ⟨rfl, rfl, rfl, rfl, rfl⟩ rfl rfl rfl rfl rfl (by kernel_rfl) Try.func10 (by kernel_rfl)
    (of_decide_eq_true (by kernel_rfl)) (by unfold Func.isWrapper; first | (rw [if_pos (by decide +kernel)]; kernel_rfl) | (rw [if_neg (by decide +kernel)]; exact ⟨rfl, rfl⟩))
    (fun os started H enc _ F0 => treeBinds_lifted os started H enc F0)
#print axioms treeBinds_holds
end Go.Proofs.Ytjgjnheeohfmmaa
