/- prelude.Prims -/
import Derived.Test.YtadhakcmfkghbaaB19p
namespace Go.Proofs.Ytadhakcmfkghbaa
open Go.RowKit
theorem rowCells_get : ∀ {l : List (ByteArray × Ty)} {i : Nat} {s : ByteArray} {t : Ty}, l[i]? = some (s, t) → ((rowCells l).drop (i * 5)).take 5 = .val (.string s) :: t.cells
  | [], i, s, t, h => by simp at h
  | (s', ⟨k, n, m, ks⟩) :: l, 0, s, t, h => by
    simp at h; obtain ⟨rfl, rfl⟩ := h
    simp [rowCells, Ty.cells]
  | (s', ⟨k, n, m, ks⟩) :: l, i + 1, s, t, h => by
    have := rowCells_get (l := l) (i := i) (by simpa using h)
    rw [← this]
    have e : (i + 1) * 5 = i * 5 + 5 := by omega
    rw [e]
    simp [rowCells, Ty.cells]
noncomputable def prOf (i : Nat) (r : ByteArray × Ty) : Pm := ⟨r.1, i + 1, r.2.args.length, ⟨r.2.vars, [], r.2⟩⟩
noncomputable def prm : Nat → List (ByteArray × Ty) → List Pm
  | _, [] => []
  | i, r :: rs => prOf i r :: prm (i + 1) rs
theorem prm_take : ∀ (l : List (ByteArray × Ty)) (j i : Nat) (r : ByteArray × Ty), l[i]? = some r → prm j (l.take (i + 1)) = prm j (l.take i) ++ [prOf (j + i) r]
  | [], j, i, r, h => by simp at h
  | x :: l, j, 0, r, h => by simp at h; subst h; simp [prm]
  | x :: l, j, i + 1, r, h => by
    have := prm_take l (j + 1) i r (by simpa using h)
    simp only [List.take_succ_cons, prm, this, List.cons_append]
    rw [Nat.add_right_comm]; rfl
theorem prm_len : ∀ (l : List (ByteArray × Ty)) (j : Nat), (prm j l).length = l.length
  | [], j => rfl
  | x :: l, j => by simp [prm, prm_len l]
noncomputable def prims : List Pm := prm 0 primRows
theorem prims_len : prims.length = 17 := by unfold prims; rw [prm_len]; rfl
theorem notFun {k : Int} {s : ByteArray} {n : Int} {ks : List Ty} (h : ks.length ≠ 2) : ¬ (Ty.mk k s n ks).isFun := fun q => h q.2.2
theorem rows_size : ∀ r ∈ primRows, r.2.size ≤ 100 := by
  simp [Ty.size, Ty.sizes]
set_option maxHeartbeats 1000000 in
theorem prims_n : prims.map Pm.n = [2, 2, 2, 2, 2, 2, 2, 2, 2, 2, 1, 1, 1, 1, 1, 1, 2] := by
  have a0 : ∀ (k : Int) (s : ByteArray) (n : Int), (Ty.mk k s n []).args = [] := fun k s n => Ty.args_not (notFun (by simp))
  have a1 : ∀ (k : Int) (s : ByteArray) (n : Int) (x : Ty), (Ty.mk k s n [x]).args = [] := fun k s n x => Ty.args_not (notFun (by simp))
  simp [prims, prm, prOf, Pm.n, Ty.args_fun, a0, a1]
set_option maxHeartbeats 4000000 in
set_option maxRecDepth 100000 in
theorem Prims_c : PCall Try.prog 16 [] (.seq 9 (Pm.cellss prims)) := by
  refine ACall.enter Try.func16 rfl (by kernel_rfl) rfl (Nat.le_of_ble_eq_true rfl) ?_
  refine c_start ?_
  refine c_seq ?_
  refine c_region ?_
  refine AOps.st 0 rfl rfl rfl (op_assign rfl rfl ?_)
  refine AOps.nil ?_
  refine go_code ?_
  refine c_seq ?_
  refine c_region ?_
  refine AOps.st 1 rfl rfl rfl (op_assign rfl rfl ?_)
  refine AOps.nil ?_
  refine go_code ?_
  refine c_seq ?_
  refine c_seq ?_
  refine ACode.ownNil (t := 1) 89 9 rfl ?_
  refine c_region ?_
  refine AOps.st 6 rfl rfl rfl (op_callp (xs := []) rfl rfl (rows_c) (by first | exact Les.refl _ | (repeat' (first | exact Les.refl _ | refine Les.cons ?_ ?_ | exact Le.refl _ | exact Le.own _ _ _ | exact Le.nil _ | refine Le.agg ?_))) ?_)
  refine AOps.st 7 rfl rfl rfl (op_move rfl rfl ?_)
  refine AOps.nil ?_
  refine go_code ?_
  refine c_block ?_
  apply c_loopk [1, 2, 3, 4, 5, 7, 8, 9, 10, 11, 12, 13, 14, 15, 16, 17, 18, 19, 20, 21, 22, 23, 24, 25, 26, 27, 28, 29, 30, 31, 32, 33] (σ := Nat × Value) (fun zz => match zz with | (i, u) => [(7, .val (.int .i64 i)), (1, .own u 9 (Pm.cellss (prm 0 (primRows.take i))))]) (fun zz => match zz with | (i, u) => [.own 89 9 u]) (fun zz => match zz with | (i, u) => i ≤ 17) (fun zz => match zz with | (i, u) => 17 - i) ((0, .slice none 0 0))
  · repeat' (first | exact Drops.nil | apply Drops.keep rfl | apply Drops.skip rfl)
  · simp
  · exact (by repeat' (first | exact SLe.nil _ | refine SLe.cons rfl ?_ ?_ | exact Le.refl _ | exact Le.own _ _ _ | exact Le.nil _))
  · exact (by first | exact MLe.none _ | exact MLe.refl _ | (repeat' (first | exact MLe.nil | exact MLe.refl _ | refine MLe.cons _ ?_ | refine MLe.drop _ ?_)))
  rintro ⟨i, u⟩ hI
  try dsimp only [List.cons_append, List.nil_append] at hI ⊢
  refine c_seq ?_
  refine c_region ?_
  refine AOps.st 8 rfl rfl rfl (op_lss rfl rfl rfl ?_); intro c8 h8
  refine AOps.nil ?_
  refine go_code ?_
  refine c_seq ?_
  rcases bool_split h8 with ⟨rfl, g8⟩ | ⟨rfl, g8⟩
  · refine c_cond_f rfl ?_
    refine c_exit ?_
    refine x_code ?_
    refine x_lp ?_
    refine x_here ?_
    refine go_code ?_
    refine c_seq ?_
    refine c_region ?_
    refine AOps.st 34 rfl rfl rfl (op_move rfl rfl ?_)
    refine AOps.st 0 rfl rfl rfl (op_assign rfl rfl ?_)
    refine AOps.nil ?_
    refine go_code ?_
    refine c_ret ?_
    refine out_tmp rfl rfl ?_ (by first | exact MLe.none _ | exact MLe.refl _ | (repeat' (first | exact MLe.nil | exact MLe.refl _ | refine MLe.cons _ ?_ | refine MLe.drop _ ?_))) ⟨rfl, rfl⟩
    rw [show primRows.take i = primRows from List.take_of_length_le (by simp; omega)]
    exact Le.own _ _ _
  · refine c_cond_t rfl ?_
    refine c_skip ?_
    refine go_code ?_
    refine c_seq ?_
    refine c_block ?_
    refine c_seq ?_
    obtain ⟨⟨s, ⟨tk, ts, tn, tks⟩⟩, hx⟩ := get_some (l := primRows) (i := i) (by simp; omega)
    have hc := rowCells_get hx
    have hsz := rows_size _ (List.mem_of_getElem? hx)
    have hpt := prm_take primRows 0 i _ hx
    have HV := (Vars_c ⟨tk, ts, tn, tks⟩ (by simp only at hsz; omega)).pure
    have HA := Args_c ⟨tk, ts, tn, tks⟩ (by simp only at hsz; omega)
    have hln := prm_len (primRows.take i) 0
    have hcl := Pm.cellss_len (prm 0 (primRows.take i))
    simp only [List.length_take] at hln
    have hal := Ty.cellss_len (Ty.args ⟨tk, ts, tn, tks⟩)
    simp only [prOf, Nat.zero_add] at hpt
    generalize Ty.vars ⟨tk, ts, tn, tks⟩ = vs at *
    generalize Ty.args ⟨tk, ts, tn, tks⟩ = ags at *
    generalize Ty.ans ⟨tk, ts, tn, tks⟩ = an at *
    obtain ⟨ak, as', an, als⟩ := an
    refine c_region ?_
    refine AOps.st 9 rfl rfl rfl (op_move rfl rfl ?_)
    refine AOps.st 10 rfl rfl rfl (op_index_av (cs' := [_, _, _, _, _]) rfl tu_80 ta_79 rfl rfl rfl (by omega) (hc) ?_)
    refine AOps.st 3 rfl rfl rfl (op_alloce (cs' := [_, _, _, _, _]) rfl tz_79 rfl rfl ?_); intro b3
    refine AOps.st 2 rfl rfl rfl (op_assign rfl rfl ?_)
    refine AOps.st0 rfl rfl (op_store (cs' := [_, _, _, _, _]) (i := 0) rfl ts_79 rfl rfl rfl rfl rfl (Nat.le_of_ble_eq_true rfl) rfl ?_)
    refine AOps.nil ?_
    refine go_code ?_
    refine c_seq ?_
    refine c_region ?_
    refine AOps.st 12 rfl rfl rfl (op_fieldAddr_m rfl tf_79_1 rfl ?_)
    refine AOps.st 13 rfl rfl rfl (op_load_m (cs' := [_, _, _, _]) (i := 0) rfl ta_77 rfl rfl rfl rfl ?_)
    refine AOps.st 14 rfl rfl rfl (op_callp (xs := [.tmp 13]) rfl rfl (HA) (by first | exact Les.refl _ | (repeat' (first | exact Les.refl _ | refine Les.cons ?_ ?_ | exact Le.refl _ | exact Le.own _ _ _ | exact Le.nil _ | refine Le.agg ?_))) ?_)
    refine AOps.st 11 rfl rfl rfl (op_move rfl rfl ?_)
    refine AOps.st 15 rfl rfl rfl (op_extract rfl rfl rfl ?_)
    refine AOps.st 16 rfl rfl rfl (op_extract rfl rfl rfl ?_)
    refine AOps.st 5 rfl rfl rfl (op_alloce (cs' := [_, _, _, _]) rfl tz_77 rfl rfl ?_); intro b5
    refine AOps.st 4 rfl rfl rfl (op_assign rfl rfl ?_)
    refine AOps.st0 rfl rfl (op_store (cs' := [_, _, _, _]) (i := 0) rfl ts_77 rfl rfl rfl rfl rfl (Nat.le_of_ble_eq_true rfl) rfl ?_)
    refine AOps.nil ?_
    refine go_code ?_
    refine c_drawnE [0, 1, 2, 3, 4, 5, 6, 7, 8, 9, 10, 11, 12, 13, 14, 15, 16] [15] [[], [], [1], [], [3], [], [5], [], [7], [7, 8], [], [10], [7, 8, 9, 10, 11], [1, 2, 3, 4, 5, 6, 7, 8, 9, 10, 11, 12], [1, 2, 3, 4, 5, 6, 7, 8, 9, 10, 11, 12, 13], [0, 1, 2, 3, 4, 5, 6, 7, 8, 9, 10, 11, 12, 13, 14], [0, 1, 2, 3, 4, 5, 6, 7, 8, 9, 10, 11, 12, 13, 14, 15]] tmix rfl ?_
    refine EOps.d 17 (none) (i := 0) rfl rfl rfl rfl rfl (op_move rfl rfl ⟨rfl, rfl⟩) ?_
    refine EOps.d 18 (none) (i := 1) rfl rfl rfl rfl rfl (op_fieldAddr_m rfl tf_79_0 rfl ⟨rfl, rfl⟩) ?_
    first | (refine EOps.d 19 (some 0) (i := 2) rfl rfl rfl rfl rfl (op_load_m1 (i := 0) rfl ta_9 rfl rfl rfl ⟨rfl, rfl⟩) ?_) | (refine EOps.d 19 (some 1) (i := 2) rfl rfl rfl rfl rfl (op_load_m1 (i := 0) rfl ta_9 rfl rfl rfl ⟨rfl, rfl⟩) ?_)
    refine EOps.d 20 (none) (i := 3) rfl rfl rfl rfl rfl (op_move rfl rfl ⟨rfl, rfl⟩) ?_
    refine EOps.d 21 (none) (i := 4) rfl rfl rfl rfl rfl (op_add rfl rfl rfl (IntWalk.i64_in _ (by omega)) ⟨rfl, rfl⟩) ?_
    refine EOps.d 22 (none) (i := 5) rfl rfl rfl rfl rfl (op_move rfl rfl ⟨rfl, rfl⟩) ?_
    refine EOps.d 23 none (i := 6) rfl rfl rfl rfl rfl (op_len rfl tu_75 rfl (.seq _ _) (fun _ => ⟨rfl, rfl⟩)) ?_
    refine EOps.d 24 (none) (i := 7) rfl rfl rfl rfl rfl (op_fieldAddr_m rfl tf_79_1 rfl ⟨rfl, rfl⟩) ?_
    first | (refine EOps.d 25 (some 0) (i := 8) rfl rfl rfl rfl rfl (op_load_m (cs' := [_, _, _, _]) (i := 0) rfl ta_77 rfl rfl rfl rfl ⟨rfl, rfl⟩) ?_) | (refine EOps.d 25 (some 1) (i := 8) rfl rfl rfl rfl rfl (op_load_m (cs' := [_, _, _, _]) (i := 0) rfl ta_77 rfl rfl rfl rfl ⟨rfl, rfl⟩) ?_)
    refine EOps.d 26 (none) (i := 9) rfl rfl rfl rfl rfl (op_callp (xs := [.tmp 25]) rfl rfl (HV) (by first | exact Les.refl _ | (repeat' (first | exact Les.refl _ | refine Les.cons ?_ ?_ | exact Le.refl _ | exact Le.own _ _ _ | exact Le.nil _ | refine Le.agg ?_))) ⟨rfl, rfl⟩) ?_
    refine EOps.d 27 (none) (i := 10) rfl rfl rfl rfl rfl (op_fieldAddr_m rfl tf_79_1 rfl ⟨rfl, rfl⟩) ?_
    first | (refine EOps.d 28 (some 0) (i := 11) rfl rfl rfl rfl rfl (op_load_m (cs' := [_, _, _, _]) (i := 0) rfl ta_77 rfl rfl rfl rfl ⟨rfl, rfl⟩) ?_) | (refine EOps.d 28 (some 1) (i := 11) rfl rfl rfl rfl rfl (op_load_m (cs' := [_, _, _, _]) (i := 0) rfl ta_77 rfl rfl rfl rfl ⟨rfl, rfl⟩) ?_)
    refine EOps.d 29 (none) (i := 12) rfl rfl rfl rfl rfl (op_build (ns := [0, 2]) (xs := [.tmp 26, .tmp 28]) rfl tz_87 rfl tfl_87 rfl rfl rfl rfl ⟨rfl, rfl⟩) ?_
    refine EOps.d 30 (none) (i := 13) rfl rfl rfl rfl rfl (op_build (ns := [0, 1, 2, 3]) (xs := [.tmp 19, .tmp 21, .tmp 23, .tmp 29]) rfl tz_89 rfl tfl_89 rfl rfl rfl rfl ⟨rfl, rfl⟩) ?_
    refine EOps.d 31 (none) (i := 14) rfl rfl rfl rfl rfl (op_buildSlice (xs := [.tmp 30]) el_50 rfl rfl rfl rfl rfl rfl (Nat.le_of_ble_eq_true rfl) ⟨rfl, rfl⟩) ?_
    first | (refine EOps.w 0 (i := 15) rfl rfl rfl rfl rfl (op_append (i := 0) el_50 rfl rfl rfl rfl (.seq _ _) (by simp only [List.length_map, List.length_reverse, List.length_cons, List.length_nil]; omega) (fun u32 => ⟨_, rfl, ?_⟩))) | (refine EOps.w 1 (i := 15) rfl rfl rfl rfl rfl (op_append (i := 0) el_50 rfl rfl rfl rfl (.seq _ _) (by simp only [List.length_map, List.length_reverse, List.length_cons, List.length_nil]; omega) (fun u32 => ⟨_, rfl, ?_⟩))) | (refine EOps.w 2 (i := 15) rfl rfl rfl rfl rfl (op_append (i := 0) el_50 rfl rfl rfl rfl (.seq _ _) (by simp only [List.length_map, List.length_reverse, List.length_cons, List.length_nil]; omega) (fun u32 => ⟨_, rfl, ?_⟩)))
    refine EOps.d 1 (none) (i := 16) rfl rfl rfl rfl rfl (op_assign rfl rfl ⟨rfl, rfl⟩) ?_
    show AGo _ _ _ _ _ _ _
    refine go_blk ?_
    refine go_code ?_
    refine c_region ?_
    refine AOps.st 33 rfl rfl rfl (op_add rfl rfl rfl (IntWalk.i64_in _ (by omega)) ?_)
    refine AOps.st 7 rfl rfl rfl (op_move rfl rfl ?_)
    refine AOps.nil ?_
    refine go_lp ?_
    refine ⟨(i + 1, u32), by show i + 1 ≤ 17; omega, by simp; omega, ?_, (by first | exact MLe.none _ | exact MLe.refl _ | (repeat' (first | exact MLe.nil | exact MLe.refl _ | refine MLe.cons _ ?_ | refine MLe.drop _ ?_)))⟩
    refine SLe.cons rfl (Le.refl _) (SLe.cons rfl ?_ (by repeat' (first | exact SLe.nil _ | refine SLe.cons rfl ?_ ?_ | exact Le.refl _ | exact Le.own _ _ _ | exact Le.nil _)))
    rw [hpt]
    simp only [Pm.cellss, List.map_append, List.map_cons, List.map_nil]
    refine Le.own_less ?_
    exact Less.app (Less.refl _) (Less.cons (Les.cons (Le.refl _) (Les.cons (Le.refl _) (Les.cons (Le.ieq (by omega)) (Les.cons (Le.refl _) (Les.cons (Le.nil _) (Les.refl _)))))) rfl Less.nil)
end Go.Proofs.Ytadhakcmfkghbaa
