/- heap: Collect, of a heap that holds texts alone, for the words of all of them in order. -/
import Derived.Test.YtecpnlhjjmcllaaB31m
namespace Go.Proofs.Ytecpnlhjjmcllaa
open Go.RowKit
theorem getk {α : Type} {l : List α} {i : Nat} (h : i < l.length) : ∃ x, l[i]? = some x := ⟨l[i], List.getElem?_eq_getElem h⟩
theorem take_next {α : Type} {l : List α} {k : Nat} {x : α} (h : l[k]? = some x) : l.take (k + 1) = l.take k ++ [x] := by
  rw [List.take_add_one, h]; rfl
theorem objFrom_at : ∀ (H : List HO) (a k : Nat) (o : HO), H[k]? = some o → objFrom a H (2 * ((a + used (H.take k) : Nat) : Int)) = some o
  | [], a, k, o, h => by simp at h
  | x :: H, a, 0, o, h => by simp at h; subst h; rw [objFrom, if_pos (by simp [used_nil])]
  | x :: H, a, k + 1, o, h => by
    simp at h
    rw [List.take_succ_cons, used_cons, objFrom, if_neg (by omega)]
    have := objFrom_at H (a + 1 + x.parts.length) k o h
    rw [← this]; congr 2; omega
def adr (H : List HO) (k : Nat) : Nat := used (H.take k) + 1
theorem objOf_adr {H : List HO} {k : Nat} {o : HO} (h : H[k]? = some o) : objOf H (2 * ((adr H k : Nat) : Int)) = some o := by rw [adr, Nat.add_comm]; exact objFrom_at H 1 k o h
theorem used_take (H : List HO) (k : Nat) : used (H.take k) ≤ used H := by
  conv => rhs; rw [← List.take_append_drop k H]
  rw [used_app]; omega
theorem adr_next {H : List HO} {k : Nat} {o : HO} (h : H[k]? = some o) : adr H (k + 1) = adr H k + 1 + o.parts.length := by
  unfold adr; rw [take_next h, used_app, used_one]; omega
theorem adr_fit {H : List HO} {k : Nat} {o : HO} (h : H[k]? = some o) : adr H k + 1 + o.parts.length ≤ used H + 1 := by
  have := used_take H (k + 1)
  rw [take_next h, used_app, used_one] at this
  unfold adr; omega
theorem hw_split {H : List HO} {k : Nat} {o : HO} (h : H[k]? = some o) : (hw H).drop (adr H k) = o.ws ++ hwT (H.drop (k + 1)) := by
  have e : H = H.take k ++ o :: H.drop (k + 1) := by
    obtain ⟨hk, rfl⟩ := List.getElem?_eq_some_iff.1 h
    rw [← List.drop_eq_getElem_cons hk, List.take_append_drop]
  have e2 : hw H = (0 :: hwT (H.take k)) ++ (o.ws ++ hwT (H.drop (k + 1))) := by
    conv => lhs; rw [e]
    rw [hw, hwT_app, hwT_cons]; rfl
  rw [e2]
  exact List.drop_left' (by simp [adr, used])
/-- what lies at the k-th object -/
theorem obj_cells {H : List HO} {k : Nat} {o : HO} (h : H[k]? = some o) {W : List Int} (hw' : ∀ j, adr H k ≤ j → W[j]? = (hw H)[j]?) : W[adr H k]? = some o.head ∧ (W.drop (adr H k + 1)).take o.parts.length = o.parts := by
  have e : W.drop (adr H k) = o.ws ++ hwT (H.drop (k + 1)) := by
    rw [← hw_split h]
    apply List.ext_getElem?
    intro i
    rw [List.getElem?_drop, List.getElem?_drop, hw' _ (by omega)]
  constructor
  · have := congrArg (fun l => l[0]?) e
    simpa [HO.ws] using this
  · rw [← List.drop_drop, e, HO.ws]
    simp
theorem fill_step {α : Type} {l : List α} {n k : Nat} {z x : α} (hn : l.length = n) (hk : l[k]? = some x) : (l.take k ++ List.replicate (n - k) z).set k x = l.take (k + 1) ++ List.replicate (n - (k + 1)) z := by
  have hkl := get_lt hk
  subst hn
  rw [List.set_append_right _ _ (by rw [List.length_take]; omega), List.length_take, Nat.min_eq_left (by omega), Nat.sub_self, take_next hk, show l.length - k = (l.length - (k + 1)) + 1 by omega, List.replicate_succ]
  simp
set_option maxHeartbeats 4000000 in
set_option maxRecDepth 100000 in
theorem Collect_c (b : Nat) (sz : Int) (H : List HO) (M : Mem) (hM : HeapAt b sz H M) (h : 0 < sz) (hH : ∀ o ∈ H, o.ok) (hu : used H ≤ 16777216) (hT : ∀ o ∈ H, o.kind = 3) (R : List Int) (hR : R = (List.range H.length).map (fun k => 2 * ((adr H k : Nat) : Int))) (hlen : H.length ≤ 1000000) :
    ACall Try.prog 20 [.ptr b 0, .seq 1 (R.map iv)] M (fun v M' => v = .seq 1 (R.map iv) ∧ HeapAt b sz H M') := by
  have hRl : R.length = H.length := by rw [hR]; simp
  have hRk : ∀ k, k < H.length → R[k]? = some (2 * ((adr H k : Nat) : Int)) := fun k hk => by rw [hR]; simp [hk]
  have hlR : (R.map iv).length = H.length := by simpa using hRl
  have hg : ∀ k, k < H.length → (R.map iv)[k]? = some [.val (.int .u64 (2 * ((adr H k : Nat) : Int)))] := fun k hk => by rw [List.getElem?_map, hRk k hk]; rfl
  obtain ⟨now, gw, cw, gb, cb, x, y, rfl⟩ := hM
  cases now
  · dsimp only [spc]
    refine ACall.enter Try.func20 rfl (by kernel_rfl) rfl (Nat.le_of_ble_eq_true rfl) ?_
    refine c_start ?_
    refine c_seq ?_
    refine c_region ?_
    refine AOps.st 4 rfl rfl rfl (op_assign rfl rfl ?_)
    refine AOps.nil ?_
    refine go_code ?_
    refine c_seq ?_
    refine c_seq ?_
    refine c_region ?_
    refine AOps.st 17 rfl rfl rfl (op_move rfl rfl ?_)
    refine AOps.st 18 rfl rfl rfl (op_callk (xs := [.tmp 17]) [0] rfl rfl rfl (is_c b sz _ rfl h) (by first | exact Les.refl _ | (repeat' (first | exact Les.refl _ | refine Les.cons ?_ ?_ | exact Le.refl _ | exact Le.own _ _ _ | exact Le.nil _ | refine Le.agg ?_))) ?_)
    refine AOps.st 19 rfl rfl rfl (op_notc rfl rfl ?_); intro c19 h19
    try replace h19 := nott h19 h18
    refine AOps.nil ?_
    refine go_code ?_
    rcases bool_split h19 with ⟨rfl, g19⟩ | ⟨rfl, g19⟩
    · refine c_cond_f rfl ?_
      refine c_skip ?_
      refine go_code ?_
      refine c_seq ?_
      refine c_region ?_
      refine AOps.st 21 rfl rfl rfl (op_move rfl rfl ?_)
      first | (refine AOps.st 22 rfl rfl rfl (op_nilCheck_m rfl rfl ?_)) | (refine AOps.st 22 rfl rfl rfl (op_nilCheck_c rfl rfl ?_)) | (refine AOps.st 22 rfl rfl rfl (op_nilCheck_f rfl rfl ?_))
      first | (refine AOps.st 23 rfl rfl rfl (op_fieldAddr_m rfl tf_81_2 rfl ?_)) | (refine AOps.st 23 rfl rfl rfl (op_fieldAddr_c rfl tf_81_2 rfl rfl ?_))
      first | (refine AOps.st 24 rfl rfl rfl (op_load_m1 (i := 0) rfl ta_3 rfl rfl rfl ?_)) | (refine AOps.st 24 rfl rfl rfl (op_load_m1 (i := 1) rfl ta_3 rfl rfl rfl ?_)) | (refine AOps.st 24 rfl rfl rfl (op_load_m1 (i := 2) rfl ta_3 rfl rfl rfl ?_)) | (refine AOps.st 24 rfl rfl rfl (op_load_m1 (i := 3) rfl ta_3 rfl rfl rfl ?_)) | (refine AOps.st 24 rfl rfl rfl (op_load_m1 (i := 4) rfl ta_3 rfl rfl rfl ?_)) | (refine AOps.st 24 rfl rfl rfl (op_load_m1 (i := 5) rfl ta_3 rfl rfl rfl ?_)) | (refine AOps.st 24 rfl rfl rfl (op_load_m1 (i := 6) rfl ta_3 rfl rfl rfl ?_)) | (refine AOps.st 24 rfl rfl rfl (op_load_m1 (i := 7) rfl ta_3 rfl rfl rfl ?_)) | (refine AOps.st 24 rfl rfl rfl (op_load_m1 (i := 8) rfl ta_3 rfl rfl rfl ?_)) | (refine AOps.st 24 rfl rfl rfl (op_load_m1 (i := 9) rfl ta_3 rfl rfl rfl ?_)) | (refine AOps.st 24 rfl rfl rfl (op_load_c1 rfl ta_3 rfl rfl ?_))
      first | (refine AOps.st 25 rfl rfl rfl (op_sub rfl rfl rfl (IntWalk.i64_in _ (by omega)) ?_)) | (refine AOps.st 25 rfl rfl rfl (op_sub rfl rfl rfl rfl ?_))
      refine AOps.st 5 rfl rfl rfl (op_assign rfl rfl ?_)
      refine AOps.nil ?_
      refine go_code ?_
      refine c_seq ?_
      refine c_drawnE [0, 1, 3, 4, 2, 5, 6] [2, 6] [[], [], [], [0], [0, 3], [0, 1, 2, 3, 4], [0, 1, 2, 3, 4, 5]] tmix rfl ?_
      refine EOps.d 26 (none) (i := 0) rfl rfl rfl rfl rfl (op_move rfl rfl ⟨rfl, rfl⟩) ?_
      refine EOps.d 27 (none) (i := 1) rfl rfl rfl rfl rfl (op_move rfl rfl ⟨rfl, rfl⟩) ?_
      first | (refine EOps.d 29 (none) (i := 3) rfl rfl rfl rfl rfl (op_nilCheck_m rfl rfl ⟨rfl, rfl⟩) ?_) | (refine EOps.d 29 (none) (i := 3) rfl rfl rfl rfl rfl (op_nilCheck_c rfl rfl ⟨rfl, rfl⟩) ?_) | (refine EOps.d 29 (none) (i := 3) rfl rfl rfl rfl rfl (op_nilCheck_f rfl rfl ⟨rfl, rfl⟩) ?_)
      first | (refine EOps.d 30 (none) (i := 4) rfl rfl rfl rfl rfl (op_fieldAddr_m rfl tf_81_1 rfl ⟨rfl, rfl⟩) ?_) | (refine EOps.d 30 (none) (i := 4) rfl rfl rfl rfl rfl (op_fieldAddr_c rfl tf_81_1 rfl rfl ⟨rfl, rfl⟩) ?_)
      refine EOps.nws (i := 2) rfl rfl rfl (op_callat [] (xs := []) rfl rfl rfl (empty_c) (by first | exact Les.refl _ | (repeat' (first | exact Les.refl _ | refine Les.cons ?_ ?_ | exact Le.refl _ | exact Le.own _ _ _ | exact Le.nil _ | refine Le.agg ?_))) ?_)
      rintro v1 M1 ⟨g1, g2, rfl, rfl⟩
      first | (refine EOps.d 31 (none) (i := 5) rfl rfl rfl rfl rfl (op_index_arrm (k := 0) rfl tu_79 ts_77 rfl rfl rfl (by decide) ⟨rfl, rfl⟩) ?_) | (refine EOps.d 31 (none) (i := 5) rfl rfl rfl rfl rfl (op_index_arrm (k := 1) rfl tu_79 ts_77 rfl rfl rfl (by decide) ⟨rfl, rfl⟩) ?_)
      first | (refine EOps.w 0 (i := 6) rfl rfl rfl rfl rfl (op_store (i := 0) rfl ts_77 rfl rfl rfl rfl rfl (Nat.le_of_ble_eq_true rfl) rfl ⟨_, rfl, ?_⟩)) | (refine EOps.w 1 (i := 6) rfl rfl rfl rfl rfl (op_store (i := 0) rfl ts_77 rfl rfl rfl rfl rfl (Nat.le_of_ble_eq_true rfl) rfl ⟨_, rfl, ?_⟩)) | (refine EOps.w 2 (i := 6) rfl rfl rfl rfl rfl (op_store (i := 0) rfl ts_77 rfl rfl rfl rfl rfl (Nat.le_of_ble_eq_true rfl) rfl ⟨_, rfl, ?_⟩)) | (refine EOps.w 3 (i := 6) rfl rfl rfl rfl rfl (op_store (i := 0) rfl ts_77 rfl rfl rfl rfl rfl (Nat.le_of_ble_eq_true rfl) rfl ⟨_, rfl, ?_⟩)) | (refine EOps.w 4 (i := 6) rfl rfl rfl rfl rfl (op_store (i := 0) rfl ts_77 rfl rfl rfl rfl rfl (Nat.le_of_ble_eq_true rfl) rfl ⟨_, rfl, ?_⟩)) | (refine EOps.w 5 (i := 6) rfl rfl rfl rfl rfl (op_store (i := 0) rfl ts_77 rfl rfl rfl rfl rfl (Nat.le_of_ble_eq_true rfl) rfl ⟨_, rfl, ?_⟩)) | (refine EOps.w 6 (i := 6) rfl rfl rfl rfl rfl (op_store (i := 0) rfl ts_77 rfl rfl rfl rfl rfl (Nat.le_of_ble_eq_true rfl) rfl ⟨_, rfl, ?_⟩)) | (refine EOps.w 7 (i := 6) rfl rfl rfl rfl rfl (op_store (i := 0) rfl ts_77 rfl rfl rfl rfl rfl (Nat.le_of_ble_eq_true rfl) rfl ⟨_, rfl, ?_⟩)) | (refine EOps.w 8 (i := 6) rfl rfl rfl rfl rfl (op_store (i := 0) rfl ts_77 rfl rfl rfl rfl rfl (Nat.le_of_ble_eq_true rfl) rfl ⟨_, rfl, ?_⟩)) | (refine EOps.w 9 (i := 6) rfl rfl rfl rfl rfl (op_store (i := 0) rfl ts_77 rfl rfl rfl rfl rfl (Nat.le_of_ble_eq_true rfl) rfl ⟨_, rfl, ?_⟩))
      show AGo _ _ _ _ _ _ _
      refine go_code ?_
      refine c_seq ?_
      refine c_drawnE [0, 1, 2, 3, 4, 5, 6, 7, 8, 9, 10, 11, 12, 13, 14, 15] [14, 15] [[], [], [1], [1, 2], [1, 2, 3], [0], [0, 5], [0, 1, 2, 3, 4, 5, 6], [], [], [8], [8, 10], [8, 9, 10, 11], [0, 1, 2, 3, 4, 5, 6, 7, 8, 9, 10, 11, 12], [], [0, 1, 2, 3, 4, 5, 6, 7, 8, 9, 10, 11, 12, 13, 14]] tmix rfl ?_
      refine EOps.d 32 (none) (i := 0) rfl rfl rfl rfl rfl (op_move rfl rfl ⟨rfl, rfl⟩) ?_
      refine EOps.d 33 (none) (i := 1) rfl rfl rfl rfl rfl (op_move rfl rfl ⟨rfl, rfl⟩) ?_
      first | (refine EOps.d 34 (none) (i := 2) rfl rfl rfl rfl rfl (op_nilCheck_m rfl rfl ⟨rfl, rfl⟩) ?_) | (refine EOps.d 34 (none) (i := 2) rfl rfl rfl rfl rfl (op_nilCheck_c rfl rfl ⟨rfl, rfl⟩) ?_) | (refine EOps.d 34 (none) (i := 2) rfl rfl rfl rfl rfl (op_nilCheck_f rfl rfl ⟨rfl, rfl⟩) ?_)
      first | (refine EOps.d 35 (none) (i := 3) rfl rfl rfl rfl rfl (op_fieldAddr_m rfl tf_81_2 rfl ⟨rfl, rfl⟩) ?_) | (refine EOps.d 35 (none) (i := 3) rfl rfl rfl rfl rfl (op_fieldAddr_c rfl tf_81_2 rfl rfl ⟨rfl, rfl⟩) ?_)
      first | (refine EOps.d 36 (some 0) (i := 4) rfl rfl rfl rfl rfl (op_load_m1 (i := 0) rfl ta_3 rfl rfl rfl ⟨rfl, rfl⟩) ?_) | (refine EOps.d 36 (some 1) (i := 4) rfl rfl rfl rfl rfl (op_load_m1 (i := 0) rfl ta_3 rfl rfl rfl ⟨rfl, rfl⟩) ?_) | (refine EOps.d 36 (some 2) (i := 4) rfl rfl rfl rfl rfl (op_load_m1 (i := 0) rfl ta_3 rfl rfl rfl ⟨rfl, rfl⟩) ?_) | (refine EOps.d 36 (some 3) (i := 4) rfl rfl rfl rfl rfl (op_load_m1 (i := 0) rfl ta_3 rfl rfl rfl ⟨rfl, rfl⟩) ?_) | (refine EOps.d 36 (some 4) (i := 4) rfl rfl rfl rfl rfl (op_load_m1 (i := 0) rfl ta_3 rfl rfl rfl ⟨rfl, rfl⟩) ?_) | (refine EOps.d 36 (some 5) (i := 4) rfl rfl rfl rfl rfl (op_load_m1 (i := 0) rfl ta_3 rfl rfl rfl ⟨rfl, rfl⟩) ?_) | (refine EOps.d 36 (some 6) (i := 4) rfl rfl rfl rfl rfl (op_load_m1 (i := 0) rfl ta_3 rfl rfl rfl ⟨rfl, rfl⟩) ?_) | (refine EOps.d 36 (some 7) (i := 4) rfl rfl rfl rfl rfl (op_load_m1 (i := 0) rfl ta_3 rfl rfl rfl ⟨rfl, rfl⟩) ?_) | (refine EOps.d 36 (some 8) (i := 4) rfl rfl rfl rfl rfl (op_load_m1 (i := 0) rfl ta_3 rfl rfl rfl ⟨rfl, rfl⟩) ?_) | (refine EOps.d 36 (some 9) (i := 4) rfl rfl rfl rfl rfl (op_load_m1 (i := 0) rfl ta_3 rfl rfl rfl ⟨rfl, rfl⟩) ?_) | (refine EOps.d 36 (none) (i := 4) rfl rfl rfl rfl rfl (op_load_c1 rfl ta_3 rfl rfl ⟨rfl, rfl⟩) ?_)
      first | (refine EOps.d 37 (none) (i := 5) rfl rfl rfl rfl rfl (op_nilCheck_m rfl rfl ⟨rfl, rfl⟩) ?_) | (refine EOps.d 37 (none) (i := 5) rfl rfl rfl rfl rfl (op_nilCheck_c rfl rfl ⟨rfl, rfl⟩) ?_) | (refine EOps.d 37 (none) (i := 5) rfl rfl rfl rfl rfl (op_nilCheck_f rfl rfl ⟨rfl, rfl⟩) ?_)
      first | (refine EOps.d 38 (none) (i := 6) rfl rfl rfl rfl rfl (op_fieldAddr_m rfl tf_81_1 rfl ⟨rfl, rfl⟩) ?_) | (refine EOps.d 38 (none) (i := 6) rfl rfl rfl rfl rfl (op_fieldAddr_c rfl tf_81_1 rfl rfl ⟨rfl, rfl⟩) ?_)
      first | (refine EOps.d 39 (none) (i := 7) rfl rfl rfl rfl rfl (op_index_arrm (k := 0) rfl tu_79 ts_77 rfl rfl rfl (by decide) ⟨rfl, rfl⟩) ?_) | (refine EOps.d 39 (none) (i := 7) rfl rfl rfl rfl rfl (op_index_arrm (k := 1) rfl tu_79 ts_77 rfl rfl rfl (by decide) ⟨rfl, rfl⟩) ?_)
      refine EOps.d 40 (none) (i := 8) rfl rfl rfl rfl rfl (op_move rfl rfl ⟨rfl, rfl⟩) ?_
      refine EOps.d 41 (none) (i := 9) rfl rfl rfl rfl rfl (op_move rfl rfl ⟨rfl, rfl⟩) ?_
      first | (refine EOps.d 42 (none) (i := 10) rfl rfl rfl rfl rfl (op_nilCheck_m rfl rfl ⟨rfl, rfl⟩) ?_) | (refine EOps.d 42 (none) (i := 10) rfl rfl rfl rfl rfl (op_nilCheck_c rfl rfl ⟨rfl, rfl⟩) ?_) | (refine EOps.d 42 (none) (i := 10) rfl rfl rfl rfl rfl (op_nilCheck_f rfl rfl ⟨rfl, rfl⟩) ?_)
      first | (refine EOps.d 43 (none) (i := 11) rfl rfl rfl rfl rfl (op_fieldAddr_m rfl tf_81_1 rfl ⟨rfl, rfl⟩) ?_) | (refine EOps.d 43 (none) (i := 11) rfl rfl rfl rfl rfl (op_fieldAddr_c rfl tf_81_1 rfl rfl ⟨rfl, rfl⟩) ?_)
      first | (refine EOps.d 44 (none) (i := 12) rfl rfl rfl rfl rfl (op_index_arrm (k := 0) rfl tu_79 ts_77 rfl rfl rfl (by decide) ⟨rfl, rfl⟩) ?_) | (refine EOps.d 44 (none) (i := 12) rfl rfl rfl rfl rfl (op_index_arrm (k := 1) rfl tu_79 ts_77 rfl rfl rfl (by decide) ⟨rfl, rfl⟩) ?_)
      refine EOps.d 45 (none) (i := 13) rfl rfl rfl rfl rfl (op_build (ns := [0, 1]) (xs := [.tmp 39, .tmp 44]) rfl tz_90 rfl tfl_90 rfl rfl rfl rfl ⟨rfl, rfl⟩) ?_
      refine EOps.nw (i := 14) rfl rfl rfl (op_alloce (cs' := [_, _]) rfl tz_90 rfl rfl (fun b6 => ⟨_, rfl, ?_⟩))
      first | (refine EOps.w 0 (i := 15) rfl rfl rfl rfl rfl (op_store (cs' := [_, _]) (i := 0) rfl ts_90 rfl rfl rfl rfl rfl (Nat.le_of_ble_eq_true rfl) rfl ⟨_, rfl, ?_⟩)) | (refine EOps.w 1 (i := 15) rfl rfl rfl rfl rfl (op_store (cs' := [_, _]) (i := 0) rfl ts_90 rfl rfl rfl rfl rfl (Nat.le_of_ble_eq_true rfl) rfl ⟨_, rfl, ?_⟩)) | (refine EOps.w 2 (i := 15) rfl rfl rfl rfl rfl (op_store (cs' := [_, _]) (i := 0) rfl ts_90 rfl rfl rfl rfl rfl (Nat.le_of_ble_eq_true rfl) rfl ⟨_, rfl, ?_⟩)) | (refine EOps.w 3 (i := 15) rfl rfl rfl rfl rfl (op_store (cs' := [_, _]) (i := 0) rfl ts_90 rfl rfl rfl rfl rfl (Nat.le_of_ble_eq_true rfl) rfl ⟨_, rfl, ?_⟩)) | (refine EOps.w 4 (i := 15) rfl rfl rfl rfl rfl (op_store (cs' := [_, _]) (i := 0) rfl ts_90 rfl rfl rfl rfl rfl (Nat.le_of_ble_eq_true rfl) rfl ⟨_, rfl, ?_⟩)) | (refine EOps.w 5 (i := 15) rfl rfl rfl rfl rfl (op_store (cs' := [_, _]) (i := 0) rfl ts_90 rfl rfl rfl rfl rfl (Nat.le_of_ble_eq_true rfl) rfl ⟨_, rfl, ?_⟩)) | (refine EOps.w 6 (i := 15) rfl rfl rfl rfl rfl (op_store (cs' := [_, _]) (i := 0) rfl ts_90 rfl rfl rfl rfl rfl (Nat.le_of_ble_eq_true rfl) rfl ⟨_, rfl, ?_⟩)) | (refine EOps.w 7 (i := 15) rfl rfl rfl rfl rfl (op_store (cs' := [_, _]) (i := 0) rfl ts_90 rfl rfl rfl rfl rfl (Nat.le_of_ble_eq_true rfl) rfl ⟨_, rfl, ?_⟩)) | (refine EOps.w 8 (i := 15) rfl rfl rfl rfl rfl (op_store (cs' := [_, _]) (i := 0) rfl ts_90 rfl rfl rfl rfl rfl (Nat.le_of_ble_eq_true rfl) rfl ⟨_, rfl, ?_⟩)) | (refine EOps.w 9 (i := 15) rfl rfl rfl rfl rfl (op_store (cs' := [_, _]) (i := 0) rfl ts_90 rfl rfl rfl rfl rfl (Nat.le_of_ble_eq_true rfl) rfl ⟨_, rfl, ?_⟩))
      show AGo _ _ _ _ _ _ _
      refine go_code ?_
      refine c_seq ?_
      refine c_region ?_
      first | (refine AOps.st 46 rfl rfl rfl (op_load_m (cs' := [_, _]) (i := 0) rfl ta_90 rfl rfl rfl rfl ?_)) | (refine AOps.st 46 rfl rfl rfl (op_load_m (cs' := [_, _]) (i := 1) rfl ta_90 rfl rfl rfl rfl ?_)) | (refine AOps.st 46 rfl rfl rfl (op_load_m (cs' := [_, _]) (i := 2) rfl ta_90 rfl rfl rfl rfl ?_)) | (refine AOps.st 46 rfl rfl rfl (op_load_m (cs' := [_, _]) (i := 3) rfl ta_90 rfl rfl rfl rfl ?_)) | (refine AOps.st 46 rfl rfl rfl (op_load_m (cs' := [_, _]) (i := 4) rfl ta_90 rfl rfl rfl rfl ?_)) | (refine AOps.st 46 rfl rfl rfl (op_load_m (cs' := [_, _]) (i := 5) rfl ta_90 rfl rfl rfl rfl ?_)) | (refine AOps.st 46 rfl rfl rfl (op_load_m (cs' := [_, _]) (i := 6) rfl ta_90 rfl rfl rfl rfl ?_)) | (refine AOps.st 46 rfl rfl rfl (op_load_m (cs' := [_, _]) (i := 7) rfl ta_90 rfl rfl rfl rfl ?_)) | (refine AOps.st 46 rfl rfl rfl (op_load_m (cs' := [_, _]) (i := 8) rfl ta_90 rfl rfl rfl rfl ?_)) | (refine AOps.st 46 rfl rfl rfl (op_load_m (cs' := [_, _]) (i := 9) rfl ta_90 rfl rfl rfl rfl ?_)) | (refine AOps.st 46 rfl rfl rfl (op_load_c (cs' := [_, _]) rfl ta_90 rfl rfl rfl ?_))
      refine AOps.st 47 rfl rfl rfl (op_makeFunc (fs := [.tmp 46]) (cs := []) rfl rfl rfl ?_)
      refine AOps.st 7 rfl rfl rfl (op_assign rfl rfl ?_)
      refine AOps.nil ?_
      refine go_code ?_
      refine c_seq ?_
      refine c_region ?_
      refine AOps.st 48 rfl rfl rfl (op_move rfl rfl ?_)
      first | (refine AOps.st 49 rfl rfl rfl (op_len rfl tu_34 rfl (.seq _ _) (fun n49 => ?_))) | (refine AOps.st 49 rfl rfl rfl (op_len rfl tu_34 rfl (.own _ _ _) (fun n49 => ?_))) | (refine AOps.st 49 rfl rfl rfl (op_len rfl tu_34 rfl (.nil 0) (fun n49 => ?_))) | (refine AOps.st 49 rfl rfl rfl (op_len_arr rfl tu_34 rfl ?_))
      refine AOps.st 50 rfl rfl rfl (op_makeSlice el_34 rfl rfl rfl (by omega) rfl ?_); intro b50
      refine AOps.st 8 rfl rfl rfl (op_assign rfl rfl ?_)
      refine AOps.nil ?_
      refine go_code ?_
      refine c_seq ?_
      refine c_seq ?_
      refine ACode.perm (pick_perm (is := [1, 1, 1, 2, 1]) rfl) ?_
      refine c_region ?_
      refine AOps.st 51 rfl rfl rfl (op_move rfl rfl ?_)
      first | (refine AOps.st 52 rfl rfl rfl (op_len rfl tu_34 rfl (.seq _ _) (fun n52 => ?_))) | (refine AOps.st 52 rfl rfl rfl (op_len rfl tu_34 rfl (.own _ _ _) (fun n52 => ?_))) | (refine AOps.st 52 rfl rfl rfl (op_len rfl tu_34 rfl (.nil 0) (fun n52 => ?_))) | (refine AOps.st 52 rfl rfl rfl (op_len_arr rfl tu_34 rfl ?_))
      refine AOps.st 53 rfl rfl rfl (op_move rfl rfl ?_)
      refine AOps.nil ?_
      refine go_code ?_
      refine c_block ?_
      apply c_loopk [1, 2, 3, 9, 10, 13, 15, 17, 18, 19, 20, 21, 22, 23, 24, 25, 26, 27, 28, 29, 30, 31, 32, 33, 34, 35, 36, 37, 38, 39, 40, 41, 42, 43, 44, 45, 46, 47, 48, 49, 50, 53, 54, 55, 56, 57, 58, 59, 60, 61, 62, 63, 64] (σ := Nat × List Int × Nat × Nat × Nat × Nat) (fun zz => match zz with | (k, W, tw, tcw, tb, tcb) => [(53, .val (.int .i64 k))]) (fun zz => match zz with | (k, W, tw, tcw, tb, tcb) => [.loc b (spc false (.val (.int .i64 sz)) (nowV false) (.val (rowv gw (used H + 1) cw)) (.val (rowv gb (used H + 1) cb)) (.val (rowv tw (used (H.take k) + 1) tcw)) (.val (rowv tb (used (H.take k) + 1) tcb))), .row 42 1 (rowv gw (used H + 1) cw) (W.map iv), .row 4 1 (rowv gb (used H + 1) cb) ((hb H).map bv), .row 42 1 (rowv tw (used (H.take k) + 1) tcw) ((hw (H.take k)).map iv), .row 4 1 (rowv tb (used (H.take k) + 1) tcb) ((hb (H.take k)).map bv), .loc b50 ((R.map iv).take k ++ List.replicate (H.length - k) (iv 0)).flatten, .loc b6 [.ptr b 1, .ptr b 3]]) (fun zz => match zz with | (k, W, tw, tcw, tb, tcb) => k ≤ H.length ∧ W.length = used H + 1 ∧ ∀ j, adr H k ≤ j → W[j]? = (hw H)[j]?) (fun zz => match zz with | (k, W, tw, tcw, tb, tcb) => H.length - k) ((0, hw H, g1, 1, g2, 1))
      · repeat' (first | exact Drops.nil | apply Drops.keep rfl | apply Drops.skip rfl)
      · exact ⟨Nat.zero_le _, hw_len H, fun _ _ => rfl⟩
      · exact (by repeat' (first | exact SLe.nil _ | refine SLe.cons rfl ?_ ?_ | exact Le.refl _ | exact Le.own _ _ _ | exact Le.nil _))
      · exact (MLe.of_eq (by simp [hlR, used_nil, hw, hb, hwT, hbT, spc, setL, AV.cells, iv, bv]))
      rintro ⟨k, W, tw, tcw, tb, tcb⟩ hI
      try dsimp only [List.cons_append, List.nil_append] at hI ⊢
      obtain ⟨hk, hWl, hWj⟩ := hI
      refine c_seq ?_
      refine c_region ?_
      refine AOps.st 54 rfl rfl rfl (op_lss rfl rfl rfl ?_); intro c54 h54
      refine AOps.nil ?_
      refine go_code ?_
      refine c_seq ?_
      rcases bool_split h54 with ⟨rfl, g54⟩ | ⟨rfl, g54⟩
      · refine c_cond_f rfl ?_
        refine c_exit ?_
        refine x_code ?_
        refine x_lp ?_
        refine x_here ?_
        refine go_code ?_
        refine c_seq ?_
        refine c_seq ?_
        obtain rfl : k = H.length := by omega
        have ht : (R.map iv).take H.length = R.map iv := by rw [← hlR]; exact List.take_length
        simp only [ht, List.take_length, Nat.sub_self, List.replicate_zero, List.append_nil]
        clear hWj hWl
        refine c_region ?_
        refine AOps.st 11 rfl rfl rfl (op_assign rfl rfl ?_)
        refine AOps.nil ?_
        refine go_code ?_
        refine c_block ?_
        apply c_loopkm [1, 2, 3, 9, 10, 11, 12, 13, 14, 15, 16, 17, 18, 19, 20, 21, 22, 23, 24, 25, 26, 27, 28, 29, 30, 31, 32, 33, 34, 35, 36, 37, 38, 39, 40, 41, 42, 43, 44, 45, 46, 47, 48, 49, 50, 51, 52, 53, 54, 55, 56, 57, 58, 59, 60, 61, 62, 63, 64, 65, 66, 67, 68, 69, 70, 71, 72, 73, 74, 75, 76, 77, 78, 79, 80, 81, 82, 83, 84, 85, 86, 87, 88, 89, 90, 91, 92, 93, 94, 95, 96, 97, 98, 99, 100, 101, 102, 103, 104, 105, 106, 107, 108, 109, 110, 111, 112, 113, 114, 115, 116, 117, 118, 119, 120] (σ := Nat) (fun zz => match zz with | k => [(11, .val (.int .i64 (adr H k)))]) (fun zz => match zz with | k => k ≤ H.length) (fun zz => match zz with | k => H.length - k) (0)
        · repeat' (first | exact Drops.nil | apply Drops.keep rfl | apply Drops.skip rfl)
        · exact Nat.zero_le _
        · exact (by repeat' (first | exact SLe.nil _ | refine SLe.cons rfl ?_ ?_ | exact Le.refl _ | exact Le.own _ _ _ | exact Le.nil _))
        rintro k hI
        try dsimp only [List.cons_append, List.nil_append] at hI ⊢
        refine c_seq ?_
        refine c_seq ?_
        refine c_region ?_
        refine AOps.st 65 rfl rfl rfl (op_move rfl rfl ?_)
        first | (refine AOps.st 66 rfl rfl rfl (op_fieldAddr_m rfl tf_90_1 rfl ?_)) | (refine AOps.st 66 rfl rfl rfl (op_fieldAddr_c rfl tf_90_1 rfl rfl ?_))
        first | (refine AOps.st 67 rfl rfl rfl (op_load_m1 (i := 0) rfl ta_87 rfl rfl rfl ?_)) | (refine AOps.st 67 rfl rfl rfl (op_load_m1 (i := 1) rfl ta_87 rfl rfl rfl ?_)) | (refine AOps.st 67 rfl rfl rfl (op_load_m1 (i := 2) rfl ta_87 rfl rfl rfl ?_)) | (refine AOps.st 67 rfl rfl rfl (op_load_m1 (i := 3) rfl ta_87 rfl rfl rfl ?_)) | (refine AOps.st 67 rfl rfl rfl (op_load_m1 (i := 4) rfl ta_87 rfl rfl rfl ?_)) | (refine AOps.st 67 rfl rfl rfl (op_load_m1 (i := 5) rfl ta_87 rfl rfl rfl ?_)) | (refine AOps.st 67 rfl rfl rfl (op_load_m1 (i := 6) rfl ta_87 rfl rfl rfl ?_)) | (refine AOps.st 67 rfl rfl rfl (op_load_m1 (i := 7) rfl ta_87 rfl rfl rfl ?_)) | (refine AOps.st 67 rfl rfl rfl (op_load_m1 (i := 8) rfl ta_87 rfl rfl rfl ?_)) | (refine AOps.st 67 rfl rfl rfl (op_load_m1 (i := 9) rfl ta_87 rfl rfl rfl ?_)) | (refine AOps.st 67 rfl rfl rfl (op_load_c1 rfl ta_87 rfl rfl ?_))
        first | (refine AOps.st 68 rfl rfl rfl (op_nilCheck_m rfl rfl ?_)) | (refine AOps.st 68 rfl rfl rfl (op_nilCheck_c rfl rfl ?_)) | (refine AOps.st 68 rfl rfl rfl (op_nilCheck_f rfl rfl ?_))
        first | (refine AOps.st 69 rfl rfl rfl (op_fieldAddr_m rfl tf_77_0 rfl ?_)) | (refine AOps.st 69 rfl rfl rfl (op_fieldAddr_c rfl tf_77_0 rfl rfl ?_))
        first | (refine AOps.st 70 rfl rfl rfl (op_load_m1 (i := 0) rfl ta_34 rfl rfl rfl ?_)) | (refine AOps.st 70 rfl rfl rfl (op_load_m1 (i := 1) rfl ta_34 rfl rfl rfl ?_)) | (refine AOps.st 70 rfl rfl rfl (op_load_m1 (i := 2) rfl ta_34 rfl rfl rfl ?_)) | (refine AOps.st 70 rfl rfl rfl (op_load_m1 (i := 3) rfl ta_34 rfl rfl rfl ?_)) | (refine AOps.st 70 rfl rfl rfl (op_load_m1 (i := 4) rfl ta_34 rfl rfl rfl ?_)) | (refine AOps.st 70 rfl rfl rfl (op_load_m1 (i := 5) rfl ta_34 rfl rfl rfl ?_)) | (refine AOps.st 70 rfl rfl rfl (op_load_m1 (i := 6) rfl ta_34 rfl rfl rfl ?_)) | (refine AOps.st 70 rfl rfl rfl (op_load_m1 (i := 7) rfl ta_34 rfl rfl rfl ?_)) | (refine AOps.st 70 rfl rfl rfl (op_load_m1 (i := 8) rfl ta_34 rfl rfl rfl ?_)) | (refine AOps.st 70 rfl rfl rfl (op_load_m1 (i := 9) rfl ta_34 rfl rfl rfl ?_)) | (refine AOps.st 70 rfl rfl rfl (op_load_c1 rfl ta_34 rfl rfl ?_))
        refine AOps.st 71 rfl rfl rfl (op_len_val rfl tu_34 rfl ?_)
        refine AOps.st 72 rfl rfl rfl (op_lss rfl rfl rfl ?_); intro c72 h72
        refine AOps.nil ?_
        refine go_code ?_
        rcases bool_split h72 with ⟨rfl, g72⟩ | ⟨rfl, g72⟩
        · refine c_cond_f rfl ?_
          refine c_exit ?_
          refine x_code ?_
          refine x_lp ?_
          refine x_here ?_
          refine go_code ?_
          refine c_seq ?_
          refine c_drawnE [0, 1, 2, 3, 4, 6, 7, 5, 8, 9] [5, 9] [[], [], [1], [1, 2], [1, 2, 3], [], [0], [0, 6], [0, 1, 2, 3, 4, 5, 6, 7], [0, 1, 2, 3, 4, 5, 6, 7, 8]] tmix rfl ?_
          refine EOps.d 121 (none) (i := 0) rfl rfl rfl rfl rfl (op_move rfl rfl ⟨rfl, rfl⟩) ?_
          refine EOps.d 122 (none) (i := 1) rfl rfl rfl rfl rfl (op_move rfl rfl ⟨rfl, rfl⟩) ?_
          first | (refine EOps.d 123 (none) (i := 2) rfl rfl rfl rfl rfl (op_nilCheck_m rfl rfl ⟨rfl, rfl⟩) ?_) | (refine EOps.d 123 (none) (i := 2) rfl rfl rfl rfl rfl (op_nilCheck_c rfl rfl ⟨rfl, rfl⟩) ?_) | (refine EOps.d 123 (none) (i := 2) rfl rfl rfl rfl rfl (op_nilCheck_f rfl rfl ⟨rfl, rfl⟩) ?_)
          first | (refine EOps.d 124 (none) (i := 3) rfl rfl rfl rfl rfl (op_fieldAddr_m rfl tf_81_2 rfl ⟨rfl, rfl⟩) ?_) | (refine EOps.d 124 (none) (i := 3) rfl rfl rfl rfl rfl (op_fieldAddr_c rfl tf_81_2 rfl rfl ⟨rfl, rfl⟩) ?_)
          first | (refine EOps.d 125 (some 0) (i := 4) rfl rfl rfl rfl rfl (op_load_m1 (i := 0) rfl ta_3 rfl rfl rfl ⟨rfl, rfl⟩) ?_) | (refine EOps.d 125 (some 1) (i := 4) rfl rfl rfl rfl rfl (op_load_m1 (i := 0) rfl ta_3 rfl rfl rfl ⟨rfl, rfl⟩) ?_) | (refine EOps.d 125 (some 2) (i := 4) rfl rfl rfl rfl rfl (op_load_m1 (i := 0) rfl ta_3 rfl rfl rfl ⟨rfl, rfl⟩) ?_) | (refine EOps.d 125 (some 3) (i := 4) rfl rfl rfl rfl rfl (op_load_m1 (i := 0) rfl ta_3 rfl rfl rfl ⟨rfl, rfl⟩) ?_) | (refine EOps.d 125 (some 4) (i := 4) rfl rfl rfl rfl rfl (op_load_m1 (i := 0) rfl ta_3 rfl rfl rfl ⟨rfl, rfl⟩) ?_) | (refine EOps.d 125 (some 5) (i := 4) rfl rfl rfl rfl rfl (op_load_m1 (i := 0) rfl ta_3 rfl rfl rfl ⟨rfl, rfl⟩) ?_) | (refine EOps.d 125 (some 6) (i := 4) rfl rfl rfl rfl rfl (op_load_m1 (i := 0) rfl ta_3 rfl rfl rfl ⟨rfl, rfl⟩) ?_) | (refine EOps.d 125 (some 7) (i := 4) rfl rfl rfl rfl rfl (op_load_m1 (i := 0) rfl ta_3 rfl rfl rfl ⟨rfl, rfl⟩) ?_) | (refine EOps.d 125 (some 8) (i := 4) rfl rfl rfl rfl rfl (op_load_m1 (i := 0) rfl ta_3 rfl rfl rfl ⟨rfl, rfl⟩) ?_) | (refine EOps.d 125 (some 9) (i := 4) rfl rfl rfl rfl rfl (op_load_m1 (i := 0) rfl ta_3 rfl rfl rfl ⟨rfl, rfl⟩) ?_) | (refine EOps.d 125 (none) (i := 4) rfl rfl rfl rfl rfl (op_load_c1 rfl ta_3 rfl rfl ⟨rfl, rfl⟩) ?_)
          first | (refine EOps.d 127 (none) (i := 6) rfl rfl rfl rfl rfl (op_nilCheck_m rfl rfl ⟨rfl, rfl⟩) ?_) | (refine EOps.d 127 (none) (i := 6) rfl rfl rfl rfl rfl (op_nilCheck_c rfl rfl ⟨rfl, rfl⟩) ?_) | (refine EOps.d 127 (none) (i := 6) rfl rfl rfl rfl rfl (op_nilCheck_f rfl rfl ⟨rfl, rfl⟩) ?_)
          first | (refine EOps.d 128 (none) (i := 7) rfl rfl rfl rfl rfl (op_fieldAddr_m rfl tf_81_1 rfl ⟨rfl, rfl⟩) ?_) | (refine EOps.d 128 (none) (i := 7) rfl rfl rfl rfl rfl (op_fieldAddr_c rfl tf_81_1 rfl rfl ⟨rfl, rfl⟩) ?_)
          refine EOps.nws (i := 5) rfl rfl rfl (op_callat [] (xs := []) rfl rfl rfl (empty_c) (by first | exact Les.refl _ | (repeat' (first | exact Les.refl _ | refine Les.cons ?_ ?_ | exact Le.refl _ | exact Le.own _ _ _ | exact Le.nil _ | refine Le.agg ?_))) ?_)
          rintro v1 M1 ⟨g3, g4, rfl, rfl⟩
          first | (refine EOps.d 129 (none) (i := 8) rfl rfl rfl rfl rfl (op_index_arrm (k := 0) rfl tu_79 ts_77 rfl rfl rfl (by decide) ⟨rfl, rfl⟩) ?_) | (refine EOps.d 129 (none) (i := 8) rfl rfl rfl rfl rfl (op_index_arrm (k := 1) rfl tu_79 ts_77 rfl rfl rfl (by decide) ⟨rfl, rfl⟩) ?_)
          first | (refine EOps.w 0 (i := 9) rfl rfl rfl rfl rfl (op_store (i := 0) rfl ts_77 rfl rfl rfl rfl rfl (Nat.le_of_ble_eq_true rfl) rfl ⟨_, rfl, ?_⟩)) | (refine EOps.w 1 (i := 9) rfl rfl rfl rfl rfl (op_store (i := 0) rfl ts_77 rfl rfl rfl rfl rfl (Nat.le_of_ble_eq_true rfl) rfl ⟨_, rfl, ?_⟩)) | (refine EOps.w 2 (i := 9) rfl rfl rfl rfl rfl (op_store (i := 0) rfl ts_77 rfl rfl rfl rfl rfl (Nat.le_of_ble_eq_true rfl) rfl ⟨_, rfl, ?_⟩)) | (refine EOps.w 3 (i := 9) rfl rfl rfl rfl rfl (op_store (i := 0) rfl ts_77 rfl rfl rfl rfl rfl (Nat.le_of_ble_eq_true rfl) rfl ⟨_, rfl, ?_⟩)) | (refine EOps.w 4 (i := 9) rfl rfl rfl rfl rfl (op_store (i := 0) rfl ts_77 rfl rfl rfl rfl rfl (Nat.le_of_ble_eq_true rfl) rfl ⟨_, rfl, ?_⟩)) | (refine EOps.w 5 (i := 9) rfl rfl rfl rfl rfl (op_store (i := 0) rfl ts_77 rfl rfl rfl rfl rfl (Nat.le_of_ble_eq_true rfl) rfl ⟨_, rfl, ?_⟩)) | (refine EOps.w 6 (i := 9) rfl rfl rfl rfl rfl (op_store (i := 0) rfl ts_77 rfl rfl rfl rfl rfl (Nat.le_of_ble_eq_true rfl) rfl ⟨_, rfl, ?_⟩)) | (refine EOps.w 7 (i := 9) rfl rfl rfl rfl rfl (op_store (i := 0) rfl ts_77 rfl rfl rfl rfl rfl (Nat.le_of_ble_eq_true rfl) rfl ⟨_, rfl, ?_⟩)) | (refine EOps.w 8 (i := 9) rfl rfl rfl rfl rfl (op_store (i := 0) rfl ts_77 rfl rfl rfl rfl rfl (Nat.le_of_ble_eq_true rfl) rfl ⟨_, rfl, ?_⟩)) | (refine EOps.w 9 (i := 9) rfl rfl rfl rfl rfl (op_store (i := 0) rfl ts_77 rfl rfl rfl rfl rfl (Nat.le_of_ble_eq_true rfl) rfl ⟨_, rfl, ?_⟩))
          show AGo _ _ _ _ _ _ _
          refine go_code ?_
          refine c_seq ?_
          refine c_region ?_
          refine AOps.st 130 rfl rfl rfl (op_move rfl rfl ?_)
          refine AOps.st 131 rfl rfl rfl (op_move rfl rfl ?_)
          first | (refine AOps.st 132 rfl rfl rfl (op_nilCheck_m rfl rfl ?_)) | (refine AOps.st 132 rfl rfl rfl (op_nilCheck_c rfl rfl ?_)) | (refine AOps.st 132 rfl rfl rfl (op_nilCheck_f rfl rfl ?_))
          first | (refine AOps.st 133 rfl rfl rfl (op_fieldAddr_m rfl tf_81_2 rfl ?_)) | (refine AOps.st 133 rfl rfl rfl (op_fieldAddr_c rfl tf_81_2 rfl rfl ?_))
          first | (refine AOps.st0 rfl rfl (op_store (i := 0) rfl ts_3 rfl rfl rfl rfl rfl (Nat.le_of_ble_eq_true rfl) rfl ?_)) | (refine AOps.st0 rfl rfl (op_store (i := 1) rfl ts_3 rfl rfl rfl rfl rfl (Nat.le_of_ble_eq_true rfl) rfl ?_)) | (refine AOps.st0 rfl rfl (op_store (i := 2) rfl ts_3 rfl rfl rfl rfl rfl (Nat.le_of_ble_eq_true rfl) rfl ?_)) | (refine AOps.st0 rfl rfl (op_store (i := 3) rfl ts_3 rfl rfl rfl rfl rfl (Nat.le_of_ble_eq_true rfl) rfl ?_)) | (refine AOps.st0 rfl rfl (op_store (i := 4) rfl ts_3 rfl rfl rfl rfl rfl (Nat.le_of_ble_eq_true rfl) rfl ?_)) | (refine AOps.st0 rfl rfl (op_store (i := 5) rfl ts_3 rfl rfl rfl rfl rfl (Nat.le_of_ble_eq_true rfl) rfl ?_)) | (refine AOps.st0 rfl rfl (op_store (i := 6) rfl ts_3 rfl rfl rfl rfl rfl (Nat.le_of_ble_eq_true rfl) rfl ?_)) | (refine AOps.st0 rfl rfl (op_store (i := 7) rfl ts_3 rfl rfl rfl rfl rfl (Nat.le_of_ble_eq_true rfl) rfl ?_)) | (refine AOps.st0 rfl rfl (op_store (i := 8) rfl ts_3 rfl rfl rfl rfl rfl (Nat.le_of_ble_eq_true rfl) rfl ?_)) | (refine AOps.st0 rfl rfl (op_store (i := 9) rfl ts_3 rfl rfl rfl rfl rfl (Nat.le_of_ble_eq_true rfl) rfl ?_))
          refine AOps.nil ?_
          refine go_code ?_
          refine c_seq ?_
          refine c_freeze (i := 5) (al' := [(8, .seq 1 (R.map iv))]) rfl rfl (fun e he => by obtain ⟨x, _, rfl⟩ := List.mem_map.1 he; rfl) rfl (by omega) (Frz.arr rfl Frz.nil) ?_
          refine c_region ?_
          refine AOps.st 134 rfl rfl rfl (op_move rfl rfl ?_)
          refine AOps.st 4 rfl rfl rfl (op_assign rfl rfl ?_)
          refine AOps.nil ?_
          refine go_code ?_
          refine c_ret ?_
          exact out_tmp (M' := [_, _, _]) rfl rfl (Le.refl _) (.cons _ (.drop _ (.drop _ (.cons _ (.cons _ (MLe.none _)))))) ⟨rfl, true, tw, tcw, tb, tcb, _, _, rfl⟩
        · refine c_cond_t rfl ?_
          refine c_skip ?_
          refine go_code ?_
          refine c_block ?_
          refine c_seq ?_
          obtain ⟨o, ho⟩ := getk (l := H) (i := k) (by
            rcases Nat.lt_or_ge k H.length with q | q
            · exact q
            · exfalso
              have : adr H k = used H + 1 := by rw [adr, List.take_of_length_le q]
              omega)
          have hoH := List.mem_of_getElem? ho
          have hnx := adr_next ho
          have hfit := adr_fit ho
          obtain ⟨e1, e2, e3, e4⟩ := HO.open_ (hH o hoH)
          have hO := Open_p o.head (headW_lo _ _ _) (headW_hi _ _ _)
          rw [e1, e2, e3, e4, hT o hoH] at hO
          have hx2 : ((hw H).map iv)[adr H k]? = some [.val (.int .u64 o.head)] := by rw [List.getElem?_map, (obj_cells ho (fun _ _ => rfl)).1]; rfl
          have hlW : ((hw H).map iv).length = used H + 1 := by simpa using hw_len H
          refine c_region ?_
          first | (refine AOps.st 74 rfl rfl rfl (op_fieldAddr_m rfl tf_90_1 rfl ?_)) | (refine AOps.st 74 rfl rfl rfl (op_fieldAddr_c rfl tf_90_1 rfl rfl ?_))
          first | (refine AOps.st 75 rfl rfl rfl (op_load_m1 (i := 0) rfl ta_87 rfl rfl rfl ?_)) | (refine AOps.st 75 rfl rfl rfl (op_load_m1 (i := 1) rfl ta_87 rfl rfl rfl ?_)) | (refine AOps.st 75 rfl rfl rfl (op_load_m1 (i := 2) rfl ta_87 rfl rfl rfl ?_)) | (refine AOps.st 75 rfl rfl rfl (op_load_m1 (i := 3) rfl ta_87 rfl rfl rfl ?_)) | (refine AOps.st 75 rfl rfl rfl (op_load_m1 (i := 4) rfl ta_87 rfl rfl rfl ?_)) | (refine AOps.st 75 rfl rfl rfl (op_load_m1 (i := 5) rfl ta_87 rfl rfl rfl ?_)) | (refine AOps.st 75 rfl rfl rfl (op_load_m1 (i := 6) rfl ta_87 rfl rfl rfl ?_)) | (refine AOps.st 75 rfl rfl rfl (op_load_m1 (i := 7) rfl ta_87 rfl rfl rfl ?_)) | (refine AOps.st 75 rfl rfl rfl (op_load_m1 (i := 8) rfl ta_87 rfl rfl rfl ?_)) | (refine AOps.st 75 rfl rfl rfl (op_load_m1 (i := 9) rfl ta_87 rfl rfl rfl ?_)) | (refine AOps.st 75 rfl rfl rfl (op_load_c1 rfl ta_87 rfl rfl ?_))
          first | (refine AOps.st 76 rfl rfl rfl (op_nilCheck_m rfl rfl ?_)) | (refine AOps.st 76 rfl rfl rfl (op_nilCheck_c rfl rfl ?_)) | (refine AOps.st 76 rfl rfl rfl (op_nilCheck_f rfl rfl ?_))
          first | (refine AOps.st 77 rfl rfl rfl (op_fieldAddr_m rfl tf_77_0 rfl ?_)) | (refine AOps.st 77 rfl rfl rfl (op_fieldAddr_c rfl tf_77_0 rfl rfl ?_))
          first | (refine AOps.st 78 rfl rfl rfl (op_load_m1 (i := 0) rfl ta_34 rfl rfl rfl ?_)) | (refine AOps.st 78 rfl rfl rfl (op_load_m1 (i := 1) rfl ta_34 rfl rfl rfl ?_)) | (refine AOps.st 78 rfl rfl rfl (op_load_m1 (i := 2) rfl ta_34 rfl rfl rfl ?_)) | (refine AOps.st 78 rfl rfl rfl (op_load_m1 (i := 3) rfl ta_34 rfl rfl rfl ?_)) | (refine AOps.st 78 rfl rfl rfl (op_load_m1 (i := 4) rfl ta_34 rfl rfl rfl ?_)) | (refine AOps.st 78 rfl rfl rfl (op_load_m1 (i := 5) rfl ta_34 rfl rfl rfl ?_)) | (refine AOps.st 78 rfl rfl rfl (op_load_m1 (i := 6) rfl ta_34 rfl rfl rfl ?_)) | (refine AOps.st 78 rfl rfl rfl (op_load_m1 (i := 7) rfl ta_34 rfl rfl rfl ?_)) | (refine AOps.st 78 rfl rfl rfl (op_load_m1 (i := 8) rfl ta_34 rfl rfl rfl ?_)) | (refine AOps.st 78 rfl rfl rfl (op_load_m1 (i := 9) rfl ta_34 rfl rfl rfl ?_)) | (refine AOps.st 78 rfl rfl rfl (op_load_c1 rfl ta_34 rfl rfl ?_))
          refine AOps.st 79 rfl rfl rfl (op_move rfl rfl ?_)
          refine AOps.st 80 rfl rfl rfl (op_index_row (i := 3) (k := adr H k) rfl te_34 rfl rfl rfl (by first | rfl | omega) (by omega) ?_)
          refine AOps.st 81 rfl rfl rfl (op_load_row1 (i := 3) (k := adr H k) (f := 0) rfl ta_42 rfl rfl rfl (hx2) rfl ?_)
          refine AOps.st 82 rfl rfl rfl (op_callp (xs := [.tmp 81]) rfl rfl (hO) (by first | exact Les.refl _ | (repeat' (first | exact Les.refl _ | refine Les.cons ?_ ?_ | exact Le.refl _ | exact Le.own _ _ _ | exact Le.nil _ | refine Le.agg ?_))) ?_)
          refine AOps.st 73 rfl rfl rfl (op_move rfl rfl ?_)
          refine AOps.st 83 rfl rfl rfl (op_extract rfl rfl rfl ?_)
          refine AOps.st 84 rfl rfl rfl (op_extract rfl rfl rfl ?_)
          refine AOps.st 85 rfl rfl rfl (op_extract rfl rfl rfl ?_)
          refine AOps.st 86 rfl rfl rfl (op_extract rfl rfl rfl ?_)
          refine AOps.st 12 rfl rfl rfl (op_assign rfl rfl ?_)
          refine AOps.st 13 rfl rfl rfl (op_assign rfl rfl ?_)
          refine AOps.st 14 rfl rfl rfl (op_assign rfl rfl ?_)
          refine AOps.st 15 rfl rfl rfl (op_assign rfl rfl ?_)
          refine AOps.nil ?_
          refine go_code ?_
          refine c_seq ?_
          refine c_seq ?_
          refine c_region ?_
          refine AOps.st 87 rfl rfl rfl (op_move rfl rfl ?_)
          first | (refine AOps.st 88 rfl rfl rfl (op_add rfl rfl rfl (IntWalk.i64_in _ (by omega)) ?_)) | (refine AOps.st 88 rfl rfl rfl (op_add rfl rfl rfl rfl ?_))
          refine AOps.st 16 rfl rfl rfl (op_assign rfl rfl ?_)
          refine AOps.nil ?_
          refine go_code ?_
          refine c_block ?_
          apply c_loopkm [1, 2, 3, 9, 10, 13, 15, 16, 17, 18, 19, 20, 21, 22, 23, 24, 25, 26, 27, 28, 29, 30, 31, 32, 33, 34, 35, 36, 37, 38, 39, 40, 41, 42, 43, 44, 45, 46, 47, 48, 49, 50, 51, 52, 53, 54, 55, 56, 57, 58, 59, 60, 61, 62, 63, 64, 89, 90, 91, 92, 93, 94, 95, 96, 97, 98, 99, 100, 101, 102, 103, 104, 105, 106, 107, 108, 109, 110, 111, 112, 113, 114, 115, 116] (σ := Nat) (fun zz => match zz with | z => [(16, .val (.int .i64 (adr H k + 1)))]) (fun zz => match zz with | z => True) (fun zz => match zz with | z => z) (0)
          · repeat' (first | exact Drops.nil | apply Drops.keep rfl | apply Drops.skip rfl)
          · exact trivial
          · exact (by repeat' (first | exact SLe.nil _ | refine SLe.cons rfl ?_ ?_ | exact Le.refl _ | exact Le.own _ _ _ | exact Le.nil _))
          rintro z hI
          try dsimp only [List.cons_append, List.nil_append] at hI ⊢
          refine c_seq ?_
          refine c_seq ?_
          refine c_bool 97 (False) ?_ _ _ rfl ?_
          · skip
            refine AOps.st 89 rfl rfl rfl (op_move rfl rfl ?_)
            refine AOps.st 90 rfl rfl rfl (op_neq rfl rfl rfl ?_); intro c90 h90
            refine AOps.st 91 rfl rfl rfl (op_move rfl rfl ?_)
            rcases bool_split h90 with ⟨rfl, g90⟩ | ⟨rfl, g90⟩
            · skip
              refine AOps.gf 92 rfl rfl rfl rfl rfl ?_
              refine AOps.gf 93 rfl rfl rfl rfl rfl ?_
              refine AOps.gf 94 rfl rfl rfl rfl rfl ?_
              refine AOps.gf 95 rfl rfl rfl rfl rfl ?_
              refine AOps.gf 96 rfl rfl rfl rfl rfl ?_
              refine AOps.st 97 rfl rfl rfl (op_pick rfl rfl rfl ?_)
              refine AOps.nil ?_
              refine BoolQ.mk rfl ?_ (by repeat' (first | exact SLe.wo _ _ | exact SLe.refl _ | refine SLe.fresh rfl ?_)) (by first | exact MLe.none _ | exact MLe.refl _ | (repeat' (first | exact MLe.nil | exact MLe.refl _ | refine MLe.cons _ ?_ | refine MLe.drop _ ?_)))
              first | (simp_all; done) | (simp_all; omega)
            · skip
              refine AOps.gt 92 rfl rfl rfl rfl rfl (op_move rfl rfl ?_)
              refine AOps.gt 93 rfl rfl rfl rfl rfl (op_move rfl rfl ?_)
              refine AOps.gt 94 rfl rfl rfl rfl rfl (op_move rfl rfl ?_)
              first | (refine AOps.gt 95 rfl rfl rfl rfl rfl (op_add rfl rfl rfl (IntWalk.i64_in _ (by omega)) ?_)) | (refine AOps.gt 95 rfl rfl rfl rfl rfl (op_add rfl rfl rfl rfl ?_))
              refine AOps.gt 96 rfl rfl rfl rfl rfl (op_leq rfl rfl rfl ?_); intro c96 h96
              refine AOps.st 97 rfl rfl rfl (op_pick rfl rfl rfl ?_)
              refine AOps.nil ?_
              refine BoolQ.mk rfl ?_ (by repeat' (first | exact SLe.wo _ _ | exact SLe.refl _ | refine SLe.fresh rfl ?_)) (by first | exact MLe.none _ | exact MLe.refl _ | (repeat' (first | exact MLe.nil | exact MLe.refl _ | refine MLe.cons _ ?_ | refine MLe.drop _ ?_)))
              first | (simp_all; done) | (simp_all; omega)
          intro c97 h97
          refine go_code ?_
          rcases bool_split h97 with ⟨rfl, g97⟩ | ⟨rfl, g97⟩
          · refine c_cond_f rfl ?_
            refine c_exit ?_
            refine x_code ?_
            refine x_lp ?_
            refine x_here ?_
            refine go_code ?_
            refine c_region ?_
            refine AOps.st 117 rfl rfl rfl (op_move rfl rfl ?_)
            refine AOps.st 118 rfl rfl rfl (op_move rfl rfl ?_)
            first | (refine AOps.st 119 rfl rfl rfl (op_add rfl rfl rfl (IntWalk.i64_in _ (by omega)) ?_)) | (refine AOps.st 119 rfl rfl rfl (op_add rfl rfl rfl rfl ?_))
            first | (refine AOps.st 120 rfl rfl rfl (op_add rfl rfl rfl (IntWalk.i64_in _ (by omega)) ?_)) | (refine AOps.st 120 rfl rfl rfl (op_add rfl rfl rfl rfl ?_))
            refine AOps.st 11 rfl rfl rfl (op_assign rfl rfl ?_)
            refine AOps.nil ?_
            refine go_blk ?_
            refine go_lp ?_
            exact ⟨k + 1, by have := get_lt ho; omega, by have := get_lt ho; show H.length - (k + 1) < H.length - k; omega, SLe.cons rfl (Le.ieq (by omega)) (by repeat' (first | exact SLe.nil _ | refine SLe.cons rfl ?_ ?_ | exact Le.refl _ | exact Le.own _ _ _ | exact Le.nil _)), (by first | exact MLe.none _ | exact MLe.refl _ | (repeat' (first | exact MLe.nil | exact MLe.refl _ | refine MLe.cons _ ?_ | refine MLe.drop _ ?_)))⟩
          · refine c_cond_t rfl ?_
            refine c_skip ?_
            refine go_code ?_
            refine c_seq ?_
            refine c_block ?_
            exact g97.elim
      · refine c_cond_t rfl ?_
        refine c_skip ?_
        refine go_code ?_
        refine c_seq ?_
        refine c_block ?_
        refine c_seq ?_
        obtain ⟨o, ho⟩ := getk (l := H) (i := k) (by omega)
        have hgk := hg k (by omega)
        have hoH := List.mem_of_getElem? ho
        obtain ⟨a1, a2⟩ := obj_cells ho hWj
        obtain ⟨a', b1, b2, b3, b4, b5, b6⟩ := at_some hu (objOf_adr ho)
        have haa : atV (2 * ((adr H k : Nat) : Int)) = ((adr H k : Nat) : Int) := by rw [b1]; unfold atV at b1; split at b1 <;> omega
        have hfit := adr_fit ho
        have hstep := fill_step (z := iv 0) hlR hgk
        have hwid : ∀ e ∈ (R.map iv).take k ++ List.replicate (H.length - k) (iv 0), e.length = 1 := fun e he => by
          rcases List.mem_append.1 he with he | he
          · obtain ⟨x, _, rfl⟩ := List.mem_map.1 (List.mem_of_mem_take he); rfl
          · rw [(List.mem_replicate.1 he).2]; rfl
        have hmv := move_c false b (.val (.int .i64 sz)) gw cw gb cb tw tcw tb tcb W H (H.take k) o (2 * ((adr H k : Nat) : Int)) (by omega) (by omega) hu (by have := used_take H k; omega) hWl (adr H k) haa b2 (hH o hoH) a1 a2 hfit
        refine c_region ?_
        refine AOps.st 55 rfl rfl rfl (op_move rfl rfl ?_)
        first | (refine AOps.st 56 rfl rfl rfl (op_index rfl te_34 rfl (.seq _ _) rfl rfl (hgk) ?_)) | (refine AOps.st 56 rfl rfl rfl (op_index (i := 0) rfl te_34 rfl (.seq _ _) rfl rfl (by first | rfl | assumption) ?_)) | (refine AOps.st 56 rfl rfl rfl (op_index (i := 1) rfl te_34 rfl (.seq _ _) rfl rfl (by first | rfl | assumption) ?_)) | (refine AOps.st 56 rfl rfl rfl (op_index rfl te_34 rfl (.own _ _ _) rfl rfl (hgk) ?_)) | (refine AOps.st 56 rfl rfl rfl (op_index (i := 0) rfl te_34 rfl (.own _ _ _) rfl rfl (by first | rfl | assumption) ?_)) | (refine AOps.st 56 rfl rfl rfl (op_index (i := 1) rfl te_34 rfl (.own _ _ _) rfl rfl (by first | rfl | assumption) ?_)) | (refine AOps.st 56 rfl rfl rfl (op_index_arr rfl te_34 rfl rfl rfl (by omega) ?_))
        first | (refine AOps.st 57 rfl rfl rfl (op_load_m1 (i := 0) rfl ta_42 rfl rfl rfl ?_)) | (refine AOps.st 57 rfl rfl rfl (op_load_m1 (i := 1) rfl ta_42 rfl rfl rfl ?_)) | (refine AOps.st 57 rfl rfl rfl (op_load_m1 (i := 2) rfl ta_42 rfl rfl rfl ?_)) | (refine AOps.st 57 rfl rfl rfl (op_load_m1 (i := 3) rfl ta_42 rfl rfl rfl ?_)) | (refine AOps.st 57 rfl rfl rfl (op_load_m1 (i := 4) rfl ta_42 rfl rfl rfl ?_)) | (refine AOps.st 57 rfl rfl rfl (op_load_m1 (i := 5) rfl ta_42 rfl rfl rfl ?_)) | (refine AOps.st 57 rfl rfl rfl (op_load_m1 (i := 6) rfl ta_42 rfl rfl rfl ?_)) | (refine AOps.st 57 rfl rfl rfl (op_load_m1 (i := 7) rfl ta_42 rfl rfl rfl ?_)) | (refine AOps.st 57 rfl rfl rfl (op_load_m1 (i := 8) rfl ta_42 rfl rfl rfl ?_)) | (refine AOps.st 57 rfl rfl rfl (op_load_m1 (i := 9) rfl ta_42 rfl rfl rfl ?_)) | (refine AOps.st 57 rfl rfl rfl (op_load_c1 rfl ta_42 rfl rfl ?_))
        refine AOps.st 9 rfl rfl rfl (op_assign rfl rfl ?_)
        refine AOps.st 10 rfl rfl rfl (op_assign rfl rfl ?_)
        refine AOps.nil ?_
        refine go_code ?_
        refine c_region ?_
        refine AOps.st 58 rfl rfl rfl (op_move rfl rfl ?_)
        refine AOps.st 59 rfl rfl rfl (op_move rfl rfl ?_)
        refine AOps.st 60 rfl rfl rfl (op_move rfl rfl ?_)
        refine AOps.st 61 rfl rfl rfl (op_move rfl rfl ?_)
        refine AOps.st 62 rfl rfl rfl (op_callvat [0,0,0,0,0] (xs := [.tmp 61])  rfl rfl rfl rfl hmv (by first | exact Les.refl _ | (repeat' (first | exact Les.refl _ | refine Les.cons ?_ ?_ | exact Le.refl _ | exact Le.own _ _ _ | exact Le.nil _ | refine Le.agg ?_))) ?_)
        rintro v1 M1 ⟨rfl, tw2, tcw2, tb2, tcb2, rfl⟩
        first | (refine AOps.st 63 rfl rfl rfl (op_index rfl te_34 rfl (.seq _ _) rfl rfl (by assumption) ?_)) | (refine AOps.st 63 rfl rfl rfl (op_index (i := 0) rfl te_34 rfl (.seq _ _) rfl rfl (by first | rfl | assumption) ?_)) | (refine AOps.st 63 rfl rfl rfl (op_index (i := 1) rfl te_34 rfl (.seq _ _) rfl rfl (by first | rfl | assumption) ?_)) | (refine AOps.st 63 rfl rfl rfl (op_index rfl te_34 rfl (.own _ _ _) rfl rfl (by assumption) ?_)) | (refine AOps.st 63 rfl rfl rfl (op_index (i := 0) rfl te_34 rfl (.own _ _ _) rfl rfl (by first | rfl | assumption) ?_)) | (refine AOps.st 63 rfl rfl rfl (op_index (i := 1) rfl te_34 rfl (.own _ _ _) rfl rfl (by first | rfl | assumption) ?_)) | (refine AOps.st 63 rfl rfl rfl (op_index_arr rfl te_34 rfl rfl rfl (by omega) ?_))
        refine AOps.st0 rfl rfl (op_store_row (k := 5) rfl ts_42 rfl rfl rfl rfl rfl (hwid) ((by simp; omega)) ?_)
        refine AOps.nil ?_
        refine go_blk ?_
        refine go_code ?_
        refine c_region ?_
        first | (refine AOps.st 64 rfl rfl rfl (op_add rfl rfl rfl (IntWalk.i64_in _ (by omega)) ?_)) | (refine AOps.st 64 rfl rfl rfl (op_add rfl rfl rfl rfl ?_))
        refine AOps.st 53 rfl rfl rfl (op_move rfl rfl ?_)
        refine AOps.nil ?_
        refine go_lp ?_
        refine ⟨(k + 1, W.set (adr H k) (2 * ((adr H k : Nat) : Int)), tw2, tcw2, tb2, tcb2), ⟨by omega, by simpa using hWl, fun j hj => ?_⟩, by show H.length - (k + 1) < _; omega, (by repeat' (first | exact SLe.nil _ | refine SLe.cons rfl ?_ ?_ | exact Le.refl _ | exact Le.own _ _ _ | exact Le.nil _)), ?_⟩
        · rw [adr_next ho] at hj
          rw [List.getElem?_set_ne (by omega)]
          exact hWj j (by omega)
        · refine MLe.of_eq ?_
          dsimp only
          rw [take_next ho, ← hstep]
          rfl
    · refine c_cond_t rfl ?_
      refine c_seq ?_
      exact absurd h19 (by simp)
  · dsimp only [spc]
    refine ACall.enter Try.func20 rfl (by kernel_rfl) rfl (Nat.le_of_ble_eq_true rfl) ?_
    refine c_start ?_
    refine c_seq ?_
    refine c_region ?_
    refine AOps.st 4 rfl rfl rfl (op_assign rfl rfl ?_)
    refine AOps.nil ?_
    refine go_code ?_
    refine c_seq ?_
    refine c_seq ?_
    refine c_region ?_
    refine AOps.st 17 rfl rfl rfl (op_move rfl rfl ?_)
    refine AOps.st 18 rfl rfl rfl (op_callk (xs := [.tmp 17]) [0] rfl rfl rfl (is_c b sz _ rfl h) (by first | exact Les.refl _ | (repeat' (first | exact Les.refl _ | refine Les.cons ?_ ?_ | exact Le.refl _ | exact Le.own _ _ _ | exact Le.nil _ | refine Le.agg ?_))) ?_)
    refine AOps.st 19 rfl rfl rfl (op_notc rfl rfl ?_); intro c19 h19
    try replace h19 := nott h19 h18
    refine AOps.nil ?_
    refine go_code ?_
    rcases bool_split h19 with ⟨rfl, g19⟩ | ⟨rfl, g19⟩
    · refine c_cond_f rfl ?_
      refine c_skip ?_
      refine go_code ?_
      refine c_seq ?_
      refine c_region ?_
      refine AOps.st 21 rfl rfl rfl (op_move rfl rfl ?_)
      first | (refine AOps.st 22 rfl rfl rfl (op_nilCheck_m rfl rfl ?_)) | (refine AOps.st 22 rfl rfl rfl (op_nilCheck_c rfl rfl ?_)) | (refine AOps.st 22 rfl rfl rfl (op_nilCheck_f rfl rfl ?_))
      first | (refine AOps.st 23 rfl rfl rfl (op_fieldAddr_m rfl tf_81_2 rfl ?_)) | (refine AOps.st 23 rfl rfl rfl (op_fieldAddr_c rfl tf_81_2 rfl rfl ?_))
      first | (refine AOps.st 24 rfl rfl rfl (op_load_m1 (i := 0) rfl ta_3 rfl rfl rfl ?_)) | (refine AOps.st 24 rfl rfl rfl (op_load_m1 (i := 1) rfl ta_3 rfl rfl rfl ?_)) | (refine AOps.st 24 rfl rfl rfl (op_load_m1 (i := 2) rfl ta_3 rfl rfl rfl ?_)) | (refine AOps.st 24 rfl rfl rfl (op_load_m1 (i := 3) rfl ta_3 rfl rfl rfl ?_)) | (refine AOps.st 24 rfl rfl rfl (op_load_m1 (i := 4) rfl ta_3 rfl rfl rfl ?_)) | (refine AOps.st 24 rfl rfl rfl (op_load_m1 (i := 5) rfl ta_3 rfl rfl rfl ?_)) | (refine AOps.st 24 rfl rfl rfl (op_load_m1 (i := 6) rfl ta_3 rfl rfl rfl ?_)) | (refine AOps.st 24 rfl rfl rfl (op_load_m1 (i := 7) rfl ta_3 rfl rfl rfl ?_)) | (refine AOps.st 24 rfl rfl rfl (op_load_m1 (i := 8) rfl ta_3 rfl rfl rfl ?_)) | (refine AOps.st 24 rfl rfl rfl (op_load_m1 (i := 9) rfl ta_3 rfl rfl rfl ?_)) | (refine AOps.st 24 rfl rfl rfl (op_load_c1 rfl ta_3 rfl rfl ?_))
      first | (refine AOps.st 25 rfl rfl rfl (op_sub rfl rfl rfl (IntWalk.i64_in _ (by omega)) ?_)) | (refine AOps.st 25 rfl rfl rfl (op_sub rfl rfl rfl rfl ?_))
      refine AOps.st 5 rfl rfl rfl (op_assign rfl rfl ?_)
      refine AOps.nil ?_
      refine go_code ?_
      refine c_seq ?_
      refine c_drawnE [0, 1, 3, 4, 2, 5, 6] [2, 6] [[], [], [], [0], [0, 3], [0, 1, 2, 3, 4], [0, 1, 2, 3, 4, 5]] tmix rfl ?_
      refine EOps.d 26 (none) (i := 0) rfl rfl rfl rfl rfl (op_move rfl rfl ⟨rfl, rfl⟩) ?_
      refine EOps.d 27 (none) (i := 1) rfl rfl rfl rfl rfl (op_move rfl rfl ⟨rfl, rfl⟩) ?_
      first | (refine EOps.d 29 (none) (i := 3) rfl rfl rfl rfl rfl (op_nilCheck_m rfl rfl ⟨rfl, rfl⟩) ?_) | (refine EOps.d 29 (none) (i := 3) rfl rfl rfl rfl rfl (op_nilCheck_c rfl rfl ⟨rfl, rfl⟩) ?_) | (refine EOps.d 29 (none) (i := 3) rfl rfl rfl rfl rfl (op_nilCheck_f rfl rfl ⟨rfl, rfl⟩) ?_)
      first | (refine EOps.d 30 (none) (i := 4) rfl rfl rfl rfl rfl (op_fieldAddr_m rfl tf_81_1 rfl ⟨rfl, rfl⟩) ?_) | (refine EOps.d 30 (none) (i := 4) rfl rfl rfl rfl rfl (op_fieldAddr_c rfl tf_81_1 rfl rfl ⟨rfl, rfl⟩) ?_)
      refine EOps.nws (i := 2) rfl rfl rfl (op_callat [] (xs := []) rfl rfl rfl (empty_c) (by first | exact Les.refl _ | (repeat' (first | exact Les.refl _ | refine Les.cons ?_ ?_ | exact Le.refl _ | exact Le.own _ _ _ | exact Le.nil _ | refine Le.agg ?_))) ?_)
      rintro v1 M1 ⟨g1, g2, rfl, rfl⟩
      first | (refine EOps.d 31 (none) (i := 5) rfl rfl rfl rfl rfl (op_index_arrm (k := 0) rfl tu_79 ts_77 rfl rfl rfl (by decide) ⟨rfl, rfl⟩) ?_) | (refine EOps.d 31 (none) (i := 5) rfl rfl rfl rfl rfl (op_index_arrm (k := 1) rfl tu_79 ts_77 rfl rfl rfl (by decide) ⟨rfl, rfl⟩) ?_)
      first | (refine EOps.w 0 (i := 6) rfl rfl rfl rfl rfl (op_store (i := 0) rfl ts_77 rfl rfl rfl rfl rfl (Nat.le_of_ble_eq_true rfl) rfl ⟨_, rfl, ?_⟩)) | (refine EOps.w 1 (i := 6) rfl rfl rfl rfl rfl (op_store (i := 0) rfl ts_77 rfl rfl rfl rfl rfl (Nat.le_of_ble_eq_true rfl) rfl ⟨_, rfl, ?_⟩)) | (refine EOps.w 2 (i := 6) rfl rfl rfl rfl rfl (op_store (i := 0) rfl ts_77 rfl rfl rfl rfl rfl (Nat.le_of_ble_eq_true rfl) rfl ⟨_, rfl, ?_⟩)) | (refine EOps.w 3 (i := 6) rfl rfl rfl rfl rfl (op_store (i := 0) rfl ts_77 rfl rfl rfl rfl rfl (Nat.le_of_ble_eq_true rfl) rfl ⟨_, rfl, ?_⟩)) | (refine EOps.w 4 (i := 6) rfl rfl rfl rfl rfl (op_store (i := 0) rfl ts_77 rfl rfl rfl rfl rfl (Nat.le_of_ble_eq_true rfl) rfl ⟨_, rfl, ?_⟩)) | (refine EOps.w 5 (i := 6) rfl rfl rfl rfl rfl (op_store (i := 0) rfl ts_77 rfl rfl rfl rfl rfl (Nat.le_of_ble_eq_true rfl) rfl ⟨_, rfl, ?_⟩)) | (refine EOps.w 6 (i := 6) rfl rfl rfl rfl rfl (op_store (i := 0) rfl ts_77 rfl rfl rfl rfl rfl (Nat.le_of_ble_eq_true rfl) rfl ⟨_, rfl, ?_⟩)) | (refine EOps.w 7 (i := 6) rfl rfl rfl rfl rfl (op_store (i := 0) rfl ts_77 rfl rfl rfl rfl rfl (Nat.le_of_ble_eq_true rfl) rfl ⟨_, rfl, ?_⟩)) | (refine EOps.w 8 (i := 6) rfl rfl rfl rfl rfl (op_store (i := 0) rfl ts_77 rfl rfl rfl rfl rfl (Nat.le_of_ble_eq_true rfl) rfl ⟨_, rfl, ?_⟩)) | (refine EOps.w 9 (i := 6) rfl rfl rfl rfl rfl (op_store (i := 0) rfl ts_77 rfl rfl rfl rfl rfl (Nat.le_of_ble_eq_true rfl) rfl ⟨_, rfl, ?_⟩))
      show AGo _ _ _ _ _ _ _
      refine go_code ?_
      refine c_seq ?_
      refine c_drawnE [0, 1, 2, 3, 4, 5, 6, 7, 8, 9, 10, 11, 12, 13, 14, 15] [14, 15] [[], [], [1], [1, 2], [1, 2, 3], [0], [0, 5], [0, 1, 2, 3, 4, 5, 6], [], [], [8], [8, 10], [8, 9, 10, 11], [0, 1, 2, 3, 4, 5, 6, 7, 8, 9, 10, 11, 12], [], [0, 1, 2, 3, 4, 5, 6, 7, 8, 9, 10, 11, 12, 13, 14]] tmix rfl ?_
      refine EOps.d 32 (none) (i := 0) rfl rfl rfl rfl rfl (op_move rfl rfl ⟨rfl, rfl⟩) ?_
      refine EOps.d 33 (none) (i := 1) rfl rfl rfl rfl rfl (op_move rfl rfl ⟨rfl, rfl⟩) ?_
      first | (refine EOps.d 34 (none) (i := 2) rfl rfl rfl rfl rfl (op_nilCheck_m rfl rfl ⟨rfl, rfl⟩) ?_) | (refine EOps.d 34 (none) (i := 2) rfl rfl rfl rfl rfl (op_nilCheck_c rfl rfl ⟨rfl, rfl⟩) ?_) | (refine EOps.d 34 (none) (i := 2) rfl rfl rfl rfl rfl (op_nilCheck_f rfl rfl ⟨rfl, rfl⟩) ?_)
      first | (refine EOps.d 35 (none) (i := 3) rfl rfl rfl rfl rfl (op_fieldAddr_m rfl tf_81_2 rfl ⟨rfl, rfl⟩) ?_) | (refine EOps.d 35 (none) (i := 3) rfl rfl rfl rfl rfl (op_fieldAddr_c rfl tf_81_2 rfl rfl ⟨rfl, rfl⟩) ?_)
      first | (refine EOps.d 36 (some 0) (i := 4) rfl rfl rfl rfl rfl (op_load_m1 (i := 0) rfl ta_3 rfl rfl rfl ⟨rfl, rfl⟩) ?_) | (refine EOps.d 36 (some 1) (i := 4) rfl rfl rfl rfl rfl (op_load_m1 (i := 0) rfl ta_3 rfl rfl rfl ⟨rfl, rfl⟩) ?_) | (refine EOps.d 36 (some 2) (i := 4) rfl rfl rfl rfl rfl (op_load_m1 (i := 0) rfl ta_3 rfl rfl rfl ⟨rfl, rfl⟩) ?_) | (refine EOps.d 36 (some 3) (i := 4) rfl rfl rfl rfl rfl (op_load_m1 (i := 0) rfl ta_3 rfl rfl rfl ⟨rfl, rfl⟩) ?_) | (refine EOps.d 36 (some 4) (i := 4) rfl rfl rfl rfl rfl (op_load_m1 (i := 0) rfl ta_3 rfl rfl rfl ⟨rfl, rfl⟩) ?_) | (refine EOps.d 36 (some 5) (i := 4) rfl rfl rfl rfl rfl (op_load_m1 (i := 0) rfl ta_3 rfl rfl rfl ⟨rfl, rfl⟩) ?_) | (refine EOps.d 36 (some 6) (i := 4) rfl rfl rfl rfl rfl (op_load_m1 (i := 0) rfl ta_3 rfl rfl rfl ⟨rfl, rfl⟩) ?_) | (refine EOps.d 36 (some 7) (i := 4) rfl rfl rfl rfl rfl (op_load_m1 (i := 0) rfl ta_3 rfl rfl rfl ⟨rfl, rfl⟩) ?_) | (refine EOps.d 36 (some 8) (i := 4) rfl rfl rfl rfl rfl (op_load_m1 (i := 0) rfl ta_3 rfl rfl rfl ⟨rfl, rfl⟩) ?_) | (refine EOps.d 36 (some 9) (i := 4) rfl rfl rfl rfl rfl (op_load_m1 (i := 0) rfl ta_3 rfl rfl rfl ⟨rfl, rfl⟩) ?_) | (refine EOps.d 36 (none) (i := 4) rfl rfl rfl rfl rfl (op_load_c1 rfl ta_3 rfl rfl ⟨rfl, rfl⟩) ?_)
      first | (refine EOps.d 37 (none) (i := 5) rfl rfl rfl rfl rfl (op_nilCheck_m rfl rfl ⟨rfl, rfl⟩) ?_) | (refine EOps.d 37 (none) (i := 5) rfl rfl rfl rfl rfl (op_nilCheck_c rfl rfl ⟨rfl, rfl⟩) ?_) | (refine EOps.d 37 (none) (i := 5) rfl rfl rfl rfl rfl (op_nilCheck_f rfl rfl ⟨rfl, rfl⟩) ?_)
      first | (refine EOps.d 38 (none) (i := 6) rfl rfl rfl rfl rfl (op_fieldAddr_m rfl tf_81_1 rfl ⟨rfl, rfl⟩) ?_) | (refine EOps.d 38 (none) (i := 6) rfl rfl rfl rfl rfl (op_fieldAddr_c rfl tf_81_1 rfl rfl ⟨rfl, rfl⟩) ?_)
      first | (refine EOps.d 39 (none) (i := 7) rfl rfl rfl rfl rfl (op_index_arrm (k := 0) rfl tu_79 ts_77 rfl rfl rfl (by decide) ⟨rfl, rfl⟩) ?_) | (refine EOps.d 39 (none) (i := 7) rfl rfl rfl rfl rfl (op_index_arrm (k := 1) rfl tu_79 ts_77 rfl rfl rfl (by decide) ⟨rfl, rfl⟩) ?_)
      refine EOps.d 40 (none) (i := 8) rfl rfl rfl rfl rfl (op_move rfl rfl ⟨rfl, rfl⟩) ?_
      refine EOps.d 41 (none) (i := 9) rfl rfl rfl rfl rfl (op_move rfl rfl ⟨rfl, rfl⟩) ?_
      first | (refine EOps.d 42 (none) (i := 10) rfl rfl rfl rfl rfl (op_nilCheck_m rfl rfl ⟨rfl, rfl⟩) ?_) | (refine EOps.d 42 (none) (i := 10) rfl rfl rfl rfl rfl (op_nilCheck_c rfl rfl ⟨rfl, rfl⟩) ?_) | (refine EOps.d 42 (none) (i := 10) rfl rfl rfl rfl rfl (op_nilCheck_f rfl rfl ⟨rfl, rfl⟩) ?_)
      first | (refine EOps.d 43 (none) (i := 11) rfl rfl rfl rfl rfl (op_fieldAddr_m rfl tf_81_1 rfl ⟨rfl, rfl⟩) ?_) | (refine EOps.d 43 (none) (i := 11) rfl rfl rfl rfl rfl (op_fieldAddr_c rfl tf_81_1 rfl rfl ⟨rfl, rfl⟩) ?_)
      first | (refine EOps.d 44 (none) (i := 12) rfl rfl rfl rfl rfl (op_index_arrm (k := 0) rfl tu_79 ts_77 rfl rfl rfl (by decide) ⟨rfl, rfl⟩) ?_) | (refine EOps.d 44 (none) (i := 12) rfl rfl rfl rfl rfl (op_index_arrm (k := 1) rfl tu_79 ts_77 rfl rfl rfl (by decide) ⟨rfl, rfl⟩) ?_)
      refine EOps.d 45 (none) (i := 13) rfl rfl rfl rfl rfl (op_build (ns := [0, 1]) (xs := [.tmp 39, .tmp 44]) rfl tz_90 rfl tfl_90 rfl rfl rfl rfl ⟨rfl, rfl⟩) ?_
      refine EOps.nw (i := 14) rfl rfl rfl (op_alloce (cs' := [_, _]) rfl tz_90 rfl rfl (fun b6 => ⟨_, rfl, ?_⟩))
      first | (refine EOps.w 0 (i := 15) rfl rfl rfl rfl rfl (op_store (cs' := [_, _]) (i := 0) rfl ts_90 rfl rfl rfl rfl rfl (Nat.le_of_ble_eq_true rfl) rfl ⟨_, rfl, ?_⟩)) | (refine EOps.w 1 (i := 15) rfl rfl rfl rfl rfl (op_store (cs' := [_, _]) (i := 0) rfl ts_90 rfl rfl rfl rfl rfl (Nat.le_of_ble_eq_true rfl) rfl ⟨_, rfl, ?_⟩)) | (refine EOps.w 2 (i := 15) rfl rfl rfl rfl rfl (op_store (cs' := [_, _]) (i := 0) rfl ts_90 rfl rfl rfl rfl rfl (Nat.le_of_ble_eq_true rfl) rfl ⟨_, rfl, ?_⟩)) | (refine EOps.w 3 (i := 15) rfl rfl rfl rfl rfl (op_store (cs' := [_, _]) (i := 0) rfl ts_90 rfl rfl rfl rfl rfl (Nat.le_of_ble_eq_true rfl) rfl ⟨_, rfl, ?_⟩)) | (refine EOps.w 4 (i := 15) rfl rfl rfl rfl rfl (op_store (cs' := [_, _]) (i := 0) rfl ts_90 rfl rfl rfl rfl rfl (Nat.le_of_ble_eq_true rfl) rfl ⟨_, rfl, ?_⟩)) | (refine EOps.w 5 (i := 15) rfl rfl rfl rfl rfl (op_store (cs' := [_, _]) (i := 0) rfl ts_90 rfl rfl rfl rfl rfl (Nat.le_of_ble_eq_true rfl) rfl ⟨_, rfl, ?_⟩)) | (refine EOps.w 6 (i := 15) rfl rfl rfl rfl rfl (op_store (cs' := [_, _]) (i := 0) rfl ts_90 rfl rfl rfl rfl rfl (Nat.le_of_ble_eq_true rfl) rfl ⟨_, rfl, ?_⟩)) | (refine EOps.w 7 (i := 15) rfl rfl rfl rfl rfl (op_store (cs' := [_, _]) (i := 0) rfl ts_90 rfl rfl rfl rfl rfl (Nat.le_of_ble_eq_true rfl) rfl ⟨_, rfl, ?_⟩)) | (refine EOps.w 8 (i := 15) rfl rfl rfl rfl rfl (op_store (cs' := [_, _]) (i := 0) rfl ts_90 rfl rfl rfl rfl rfl (Nat.le_of_ble_eq_true rfl) rfl ⟨_, rfl, ?_⟩)) | (refine EOps.w 9 (i := 15) rfl rfl rfl rfl rfl (op_store (cs' := [_, _]) (i := 0) rfl ts_90 rfl rfl rfl rfl rfl (Nat.le_of_ble_eq_true rfl) rfl ⟨_, rfl, ?_⟩))
      show AGo _ _ _ _ _ _ _
      refine go_code ?_
      refine c_seq ?_
      refine c_region ?_
      first | (refine AOps.st 46 rfl rfl rfl (op_load_m (cs' := [_, _]) (i := 0) rfl ta_90 rfl rfl rfl rfl ?_)) | (refine AOps.st 46 rfl rfl rfl (op_load_m (cs' := [_, _]) (i := 1) rfl ta_90 rfl rfl rfl rfl ?_)) | (refine AOps.st 46 rfl rfl rfl (op_load_m (cs' := [_, _]) (i := 2) rfl ta_90 rfl rfl rfl rfl ?_)) | (refine AOps.st 46 rfl rfl rfl (op_load_m (cs' := [_, _]) (i := 3) rfl ta_90 rfl rfl rfl rfl ?_)) | (refine AOps.st 46 rfl rfl rfl (op_load_m (cs' := [_, _]) (i := 4) rfl ta_90 rfl rfl rfl rfl ?_)) | (refine AOps.st 46 rfl rfl rfl (op_load_m (cs' := [_, _]) (i := 5) rfl ta_90 rfl rfl rfl rfl ?_)) | (refine AOps.st 46 rfl rfl rfl (op_load_m (cs' := [_, _]) (i := 6) rfl ta_90 rfl rfl rfl rfl ?_)) | (refine AOps.st 46 rfl rfl rfl (op_load_m (cs' := [_, _]) (i := 7) rfl ta_90 rfl rfl rfl rfl ?_)) | (refine AOps.st 46 rfl rfl rfl (op_load_m (cs' := [_, _]) (i := 8) rfl ta_90 rfl rfl rfl rfl ?_)) | (refine AOps.st 46 rfl rfl rfl (op_load_m (cs' := [_, _]) (i := 9) rfl ta_90 rfl rfl rfl rfl ?_)) | (refine AOps.st 46 rfl rfl rfl (op_load_c (cs' := [_, _]) rfl ta_90 rfl rfl rfl ?_))
      refine AOps.st 47 rfl rfl rfl (op_makeFunc (fs := [.tmp 46]) (cs := []) rfl rfl rfl ?_)
      refine AOps.st 7 rfl rfl rfl (op_assign rfl rfl ?_)
      refine AOps.nil ?_
      refine go_code ?_
      refine c_seq ?_
      refine c_region ?_
      refine AOps.st 48 rfl rfl rfl (op_move rfl rfl ?_)
      first | (refine AOps.st 49 rfl rfl rfl (op_len rfl tu_34 rfl (.seq _ _) (fun n49 => ?_))) | (refine AOps.st 49 rfl rfl rfl (op_len rfl tu_34 rfl (.own _ _ _) (fun n49 => ?_))) | (refine AOps.st 49 rfl rfl rfl (op_len rfl tu_34 rfl (.nil 0) (fun n49 => ?_))) | (refine AOps.st 49 rfl rfl rfl (op_len_arr rfl tu_34 rfl ?_))
      refine AOps.st 50 rfl rfl rfl (op_makeSlice el_34 rfl rfl rfl (by omega) rfl ?_); intro b50
      refine AOps.st 8 rfl rfl rfl (op_assign rfl rfl ?_)
      refine AOps.nil ?_
      refine go_code ?_
      refine c_seq ?_
      refine c_seq ?_
      refine ACode.perm (pick_perm (is := [1, 1, 1, 2, 1]) rfl) ?_
      refine c_region ?_
      refine AOps.st 51 rfl rfl rfl (op_move rfl rfl ?_)
      first | (refine AOps.st 52 rfl rfl rfl (op_len rfl tu_34 rfl (.seq _ _) (fun n52 => ?_))) | (refine AOps.st 52 rfl rfl rfl (op_len rfl tu_34 rfl (.own _ _ _) (fun n52 => ?_))) | (refine AOps.st 52 rfl rfl rfl (op_len rfl tu_34 rfl (.nil 0) (fun n52 => ?_))) | (refine AOps.st 52 rfl rfl rfl (op_len_arr rfl tu_34 rfl ?_))
      refine AOps.st 53 rfl rfl rfl (op_move rfl rfl ?_)
      refine AOps.nil ?_
      refine go_code ?_
      refine c_block ?_
      apply c_loopk [1, 2, 3, 9, 10, 13, 15, 17, 18, 19, 20, 21, 22, 23, 24, 25, 26, 27, 28, 29, 30, 31, 32, 33, 34, 35, 36, 37, 38, 39, 40, 41, 42, 43, 44, 45, 46, 47, 48, 49, 50, 53, 54, 55, 56, 57, 58, 59, 60, 61, 62, 63, 64] (σ := Nat × List Int × Nat × Nat × Nat × Nat) (fun zz => match zz with | (k, W, tw, tcw, tb, tcb) => [(53, .val (.int .i64 k))]) (fun zz => match zz with | (k, W, tw, tcw, tb, tcb) => [.loc b (spc true (.val (.int .i64 sz)) (nowV true) (.val (rowv gw (used H + 1) cw)) (.val (rowv gb (used H + 1) cb)) (.val (rowv tw (used (H.take k) + 1) tcw)) (.val (rowv tb (used (H.take k) + 1) tcb))), .row 42 1 (rowv gw (used H + 1) cw) (W.map iv), .row 4 1 (rowv gb (used H + 1) cb) ((hb H).map bv), .row 42 1 (rowv tw (used (H.take k) + 1) tcw) ((hw (H.take k)).map iv), .row 4 1 (rowv tb (used (H.take k) + 1) tcb) ((hb (H.take k)).map bv), .loc b50 ((R.map iv).take k ++ List.replicate (H.length - k) (iv 0)).flatten, .loc b6 [.ptr b 3, .ptr b 1]]) (fun zz => match zz with | (k, W, tw, tcw, tb, tcb) => k ≤ H.length ∧ W.length = used H + 1 ∧ ∀ j, adr H k ≤ j → W[j]? = (hw H)[j]?) (fun zz => match zz with | (k, W, tw, tcw, tb, tcb) => H.length - k) ((0, hw H, g1, 1, g2, 1))
      · repeat' (first | exact Drops.nil | apply Drops.keep rfl | apply Drops.skip rfl)
      · exact ⟨Nat.zero_le _, hw_len H, fun _ _ => rfl⟩
      · exact (by repeat' (first | exact SLe.nil _ | refine SLe.cons rfl ?_ ?_ | exact Le.refl _ | exact Le.own _ _ _ | exact Le.nil _))
      · exact (MLe.of_eq (by simp [hlR, used_nil, hw, hb, hwT, hbT, spc, setL, AV.cells, iv, bv]))
      rintro ⟨k, W, tw, tcw, tb, tcb⟩ hI
      try dsimp only [List.cons_append, List.nil_append] at hI ⊢
      obtain ⟨hk, hWl, hWj⟩ := hI
      refine c_seq ?_
      refine c_region ?_
      refine AOps.st 54 rfl rfl rfl (op_lss rfl rfl rfl ?_); intro c54 h54
      refine AOps.nil ?_
      refine go_code ?_
      refine c_seq ?_
      rcases bool_split h54 with ⟨rfl, g54⟩ | ⟨rfl, g54⟩
      · refine c_cond_f rfl ?_
        refine c_exit ?_
        refine x_code ?_
        refine x_lp ?_
        refine x_here ?_
        refine go_code ?_
        refine c_seq ?_
        refine c_seq ?_
        obtain rfl : k = H.length := by omega
        have ht : (R.map iv).take H.length = R.map iv := by rw [← hlR]; exact List.take_length
        simp only [ht, List.take_length, Nat.sub_self, List.replicate_zero, List.append_nil]
        clear hWj hWl
        refine c_region ?_
        refine AOps.st 11 rfl rfl rfl (op_assign rfl rfl ?_)
        refine AOps.nil ?_
        refine go_code ?_
        refine c_block ?_
        apply c_loopkm [1, 2, 3, 9, 10, 11, 12, 13, 14, 15, 16, 17, 18, 19, 20, 21, 22, 23, 24, 25, 26, 27, 28, 29, 30, 31, 32, 33, 34, 35, 36, 37, 38, 39, 40, 41, 42, 43, 44, 45, 46, 47, 48, 49, 50, 51, 52, 53, 54, 55, 56, 57, 58, 59, 60, 61, 62, 63, 64, 65, 66, 67, 68, 69, 70, 71, 72, 73, 74, 75, 76, 77, 78, 79, 80, 81, 82, 83, 84, 85, 86, 87, 88, 89, 90, 91, 92, 93, 94, 95, 96, 97, 98, 99, 100, 101, 102, 103, 104, 105, 106, 107, 108, 109, 110, 111, 112, 113, 114, 115, 116, 117, 118, 119, 120] (σ := Nat) (fun zz => match zz with | k => [(11, .val (.int .i64 (adr H k)))]) (fun zz => match zz with | k => k ≤ H.length) (fun zz => match zz with | k => H.length - k) (0)
        · repeat' (first | exact Drops.nil | apply Drops.keep rfl | apply Drops.skip rfl)
        · exact Nat.zero_le _
        · exact (by repeat' (first | exact SLe.nil _ | refine SLe.cons rfl ?_ ?_ | exact Le.refl _ | exact Le.own _ _ _ | exact Le.nil _))
        rintro k hI
        try dsimp only [List.cons_append, List.nil_append] at hI ⊢
        refine c_seq ?_
        refine c_seq ?_
        refine c_region ?_
        refine AOps.st 65 rfl rfl rfl (op_move rfl rfl ?_)
        first | (refine AOps.st 66 rfl rfl rfl (op_fieldAddr_m rfl tf_90_1 rfl ?_)) | (refine AOps.st 66 rfl rfl rfl (op_fieldAddr_c rfl tf_90_1 rfl rfl ?_))
        first | (refine AOps.st 67 rfl rfl rfl (op_load_m1 (i := 0) rfl ta_87 rfl rfl rfl ?_)) | (refine AOps.st 67 rfl rfl rfl (op_load_m1 (i := 1) rfl ta_87 rfl rfl rfl ?_)) | (refine AOps.st 67 rfl rfl rfl (op_load_m1 (i := 2) rfl ta_87 rfl rfl rfl ?_)) | (refine AOps.st 67 rfl rfl rfl (op_load_m1 (i := 3) rfl ta_87 rfl rfl rfl ?_)) | (refine AOps.st 67 rfl rfl rfl (op_load_m1 (i := 4) rfl ta_87 rfl rfl rfl ?_)) | (refine AOps.st 67 rfl rfl rfl (op_load_m1 (i := 5) rfl ta_87 rfl rfl rfl ?_)) | (refine AOps.st 67 rfl rfl rfl (op_load_m1 (i := 6) rfl ta_87 rfl rfl rfl ?_)) | (refine AOps.st 67 rfl rfl rfl (op_load_m1 (i := 7) rfl ta_87 rfl rfl rfl ?_)) | (refine AOps.st 67 rfl rfl rfl (op_load_m1 (i := 8) rfl ta_87 rfl rfl rfl ?_)) | (refine AOps.st 67 rfl rfl rfl (op_load_m1 (i := 9) rfl ta_87 rfl rfl rfl ?_)) | (refine AOps.st 67 rfl rfl rfl (op_load_c1 rfl ta_87 rfl rfl ?_))
        first | (refine AOps.st 68 rfl rfl rfl (op_nilCheck_m rfl rfl ?_)) | (refine AOps.st 68 rfl rfl rfl (op_nilCheck_c rfl rfl ?_)) | (refine AOps.st 68 rfl rfl rfl (op_nilCheck_f rfl rfl ?_))
        first | (refine AOps.st 69 rfl rfl rfl (op_fieldAddr_m rfl tf_77_0 rfl ?_)) | (refine AOps.st 69 rfl rfl rfl (op_fieldAddr_c rfl tf_77_0 rfl rfl ?_))
        first | (refine AOps.st 70 rfl rfl rfl (op_load_m1 (i := 0) rfl ta_34 rfl rfl rfl ?_)) | (refine AOps.st 70 rfl rfl rfl (op_load_m1 (i := 1) rfl ta_34 rfl rfl rfl ?_)) | (refine AOps.st 70 rfl rfl rfl (op_load_m1 (i := 2) rfl ta_34 rfl rfl rfl ?_)) | (refine AOps.st 70 rfl rfl rfl (op_load_m1 (i := 3) rfl ta_34 rfl rfl rfl ?_)) | (refine AOps.st 70 rfl rfl rfl (op_load_m1 (i := 4) rfl ta_34 rfl rfl rfl ?_)) | (refine AOps.st 70 rfl rfl rfl (op_load_m1 (i := 5) rfl ta_34 rfl rfl rfl ?_)) | (refine AOps.st 70 rfl rfl rfl (op_load_m1 (i := 6) rfl ta_34 rfl rfl rfl ?_)) | (refine AOps.st 70 rfl rfl rfl (op_load_m1 (i := 7) rfl ta_34 rfl rfl rfl ?_)) | (refine AOps.st 70 rfl rfl rfl (op_load_m1 (i := 8) rfl ta_34 rfl rfl rfl ?_)) | (refine AOps.st 70 rfl rfl rfl (op_load_m1 (i := 9) rfl ta_34 rfl rfl rfl ?_)) | (refine AOps.st 70 rfl rfl rfl (op_load_c1 rfl ta_34 rfl rfl ?_))
        refine AOps.st 71 rfl rfl rfl (op_len_val rfl tu_34 rfl ?_)
        refine AOps.st 72 rfl rfl rfl (op_lss rfl rfl rfl ?_); intro c72 h72
        refine AOps.nil ?_
        refine go_code ?_
        rcases bool_split h72 with ⟨rfl, g72⟩ | ⟨rfl, g72⟩
        · refine c_cond_f rfl ?_
          refine c_exit ?_
          refine x_code ?_
          refine x_lp ?_
          refine x_here ?_
          refine go_code ?_
          refine c_seq ?_
          refine c_drawnE [0, 1, 2, 3, 4, 6, 7, 5, 8, 9] [5, 9] [[], [], [1], [1, 2], [1, 2, 3], [], [0], [0, 6], [0, 1, 2, 3, 4, 5, 6, 7], [0, 1, 2, 3, 4, 5, 6, 7, 8]] tmix rfl ?_
          refine EOps.d 121 (none) (i := 0) rfl rfl rfl rfl rfl (op_move rfl rfl ⟨rfl, rfl⟩) ?_
          refine EOps.d 122 (none) (i := 1) rfl rfl rfl rfl rfl (op_move rfl rfl ⟨rfl, rfl⟩) ?_
          first | (refine EOps.d 123 (none) (i := 2) rfl rfl rfl rfl rfl (op_nilCheck_m rfl rfl ⟨rfl, rfl⟩) ?_) | (refine EOps.d 123 (none) (i := 2) rfl rfl rfl rfl rfl (op_nilCheck_c rfl rfl ⟨rfl, rfl⟩) ?_) | (refine EOps.d 123 (none) (i := 2) rfl rfl rfl rfl rfl (op_nilCheck_f rfl rfl ⟨rfl, rfl⟩) ?_)
          first | (refine EOps.d 124 (none) (i := 3) rfl rfl rfl rfl rfl (op_fieldAddr_m rfl tf_81_2 rfl ⟨rfl, rfl⟩) ?_) | (refine EOps.d 124 (none) (i := 3) rfl rfl rfl rfl rfl (op_fieldAddr_c rfl tf_81_2 rfl rfl ⟨rfl, rfl⟩) ?_)
          first | (refine EOps.d 125 (some 0) (i := 4) rfl rfl rfl rfl rfl (op_load_m1 (i := 0) rfl ta_3 rfl rfl rfl ⟨rfl, rfl⟩) ?_) | (refine EOps.d 125 (some 1) (i := 4) rfl rfl rfl rfl rfl (op_load_m1 (i := 0) rfl ta_3 rfl rfl rfl ⟨rfl, rfl⟩) ?_) | (refine EOps.d 125 (some 2) (i := 4) rfl rfl rfl rfl rfl (op_load_m1 (i := 0) rfl ta_3 rfl rfl rfl ⟨rfl, rfl⟩) ?_) | (refine EOps.d 125 (some 3) (i := 4) rfl rfl rfl rfl rfl (op_load_m1 (i := 0) rfl ta_3 rfl rfl rfl ⟨rfl, rfl⟩) ?_) | (refine EOps.d 125 (some 4) (i := 4) rfl rfl rfl rfl rfl (op_load_m1 (i := 0) rfl ta_3 rfl rfl rfl ⟨rfl, rfl⟩) ?_) | (refine EOps.d 125 (some 5) (i := 4) rfl rfl rfl rfl rfl (op_load_m1 (i := 0) rfl ta_3 rfl rfl rfl ⟨rfl, rfl⟩) ?_) | (refine EOps.d 125 (some 6) (i := 4) rfl rfl rfl rfl rfl (op_load_m1 (i := 0) rfl ta_3 rfl rfl rfl ⟨rfl, rfl⟩) ?_) | (refine EOps.d 125 (some 7) (i := 4) rfl rfl rfl rfl rfl (op_load_m1 (i := 0) rfl ta_3 rfl rfl rfl ⟨rfl, rfl⟩) ?_) | (refine EOps.d 125 (some 8) (i := 4) rfl rfl rfl rfl rfl (op_load_m1 (i := 0) rfl ta_3 rfl rfl rfl ⟨rfl, rfl⟩) ?_) | (refine EOps.d 125 (some 9) (i := 4) rfl rfl rfl rfl rfl (op_load_m1 (i := 0) rfl ta_3 rfl rfl rfl ⟨rfl, rfl⟩) ?_) | (refine EOps.d 125 (none) (i := 4) rfl rfl rfl rfl rfl (op_load_c1 rfl ta_3 rfl rfl ⟨rfl, rfl⟩) ?_)
          first | (refine EOps.d 127 (none) (i := 6) rfl rfl rfl rfl rfl (op_nilCheck_m rfl rfl ⟨rfl, rfl⟩) ?_) | (refine EOps.d 127 (none) (i := 6) rfl rfl rfl rfl rfl (op_nilCheck_c rfl rfl ⟨rfl, rfl⟩) ?_) | (refine EOps.d 127 (none) (i := 6) rfl rfl rfl rfl rfl (op_nilCheck_f rfl rfl ⟨rfl, rfl⟩) ?_)
          first | (refine EOps.d 128 (none) (i := 7) rfl rfl rfl rfl rfl (op_fieldAddr_m rfl tf_81_1 rfl ⟨rfl, rfl⟩) ?_) | (refine EOps.d 128 (none) (i := 7) rfl rfl rfl rfl rfl (op_fieldAddr_c rfl tf_81_1 rfl rfl ⟨rfl, rfl⟩) ?_)
          refine EOps.nws (i := 5) rfl rfl rfl (op_callat [] (xs := []) rfl rfl rfl (empty_c) (by first | exact Les.refl _ | (repeat' (first | exact Les.refl _ | refine Les.cons ?_ ?_ | exact Le.refl _ | exact Le.own _ _ _ | exact Le.nil _ | refine Le.agg ?_))) ?_)
          rintro v1 M1 ⟨g3, g4, rfl, rfl⟩
          first | (refine EOps.d 129 (none) (i := 8) rfl rfl rfl rfl rfl (op_index_arrm (k := 0) rfl tu_79 ts_77 rfl rfl rfl (by decide) ⟨rfl, rfl⟩) ?_) | (refine EOps.d 129 (none) (i := 8) rfl rfl rfl rfl rfl (op_index_arrm (k := 1) rfl tu_79 ts_77 rfl rfl rfl (by decide) ⟨rfl, rfl⟩) ?_)
          first | (refine EOps.w 0 (i := 9) rfl rfl rfl rfl rfl (op_store (i := 0) rfl ts_77 rfl rfl rfl rfl rfl (Nat.le_of_ble_eq_true rfl) rfl ⟨_, rfl, ?_⟩)) | (refine EOps.w 1 (i := 9) rfl rfl rfl rfl rfl (op_store (i := 0) rfl ts_77 rfl rfl rfl rfl rfl (Nat.le_of_ble_eq_true rfl) rfl ⟨_, rfl, ?_⟩)) | (refine EOps.w 2 (i := 9) rfl rfl rfl rfl rfl (op_store (i := 0) rfl ts_77 rfl rfl rfl rfl rfl (Nat.le_of_ble_eq_true rfl) rfl ⟨_, rfl, ?_⟩)) | (refine EOps.w 3 (i := 9) rfl rfl rfl rfl rfl (op_store (i := 0) rfl ts_77 rfl rfl rfl rfl rfl (Nat.le_of_ble_eq_true rfl) rfl ⟨_, rfl, ?_⟩)) | (refine EOps.w 4 (i := 9) rfl rfl rfl rfl rfl (op_store (i := 0) rfl ts_77 rfl rfl rfl rfl rfl (Nat.le_of_ble_eq_true rfl) rfl ⟨_, rfl, ?_⟩)) | (refine EOps.w 5 (i := 9) rfl rfl rfl rfl rfl (op_store (i := 0) rfl ts_77 rfl rfl rfl rfl rfl (Nat.le_of_ble_eq_true rfl) rfl ⟨_, rfl, ?_⟩)) | (refine EOps.w 6 (i := 9) rfl rfl rfl rfl rfl (op_store (i := 0) rfl ts_77 rfl rfl rfl rfl rfl (Nat.le_of_ble_eq_true rfl) rfl ⟨_, rfl, ?_⟩)) | (refine EOps.w 7 (i := 9) rfl rfl rfl rfl rfl (op_store (i := 0) rfl ts_77 rfl rfl rfl rfl rfl (Nat.le_of_ble_eq_true rfl) rfl ⟨_, rfl, ?_⟩)) | (refine EOps.w 8 (i := 9) rfl rfl rfl rfl rfl (op_store (i := 0) rfl ts_77 rfl rfl rfl rfl rfl (Nat.le_of_ble_eq_true rfl) rfl ⟨_, rfl, ?_⟩)) | (refine EOps.w 9 (i := 9) rfl rfl rfl rfl rfl (op_store (i := 0) rfl ts_77 rfl rfl rfl rfl rfl (Nat.le_of_ble_eq_true rfl) rfl ⟨_, rfl, ?_⟩))
          show AGo _ _ _ _ _ _ _
          refine go_code ?_
          refine c_seq ?_
          refine c_region ?_
          refine AOps.st 130 rfl rfl rfl (op_move rfl rfl ?_)
          refine AOps.st 131 rfl rfl rfl (op_move rfl rfl ?_)
          first | (refine AOps.st 132 rfl rfl rfl (op_nilCheck_m rfl rfl ?_)) | (refine AOps.st 132 rfl rfl rfl (op_nilCheck_c rfl rfl ?_)) | (refine AOps.st 132 rfl rfl rfl (op_nilCheck_f rfl rfl ?_))
          first | (refine AOps.st 133 rfl rfl rfl (op_fieldAddr_m rfl tf_81_2 rfl ?_)) | (refine AOps.st 133 rfl rfl rfl (op_fieldAddr_c rfl tf_81_2 rfl rfl ?_))
          first | (refine AOps.st0 rfl rfl (op_store (i := 0) rfl ts_3 rfl rfl rfl rfl rfl (Nat.le_of_ble_eq_true rfl) rfl ?_)) | (refine AOps.st0 rfl rfl (op_store (i := 1) rfl ts_3 rfl rfl rfl rfl rfl (Nat.le_of_ble_eq_true rfl) rfl ?_)) | (refine AOps.st0 rfl rfl (op_store (i := 2) rfl ts_3 rfl rfl rfl rfl rfl (Nat.le_of_ble_eq_true rfl) rfl ?_)) | (refine AOps.st0 rfl rfl (op_store (i := 3) rfl ts_3 rfl rfl rfl rfl rfl (Nat.le_of_ble_eq_true rfl) rfl ?_)) | (refine AOps.st0 rfl rfl (op_store (i := 4) rfl ts_3 rfl rfl rfl rfl rfl (Nat.le_of_ble_eq_true rfl) rfl ?_)) | (refine AOps.st0 rfl rfl (op_store (i := 5) rfl ts_3 rfl rfl rfl rfl rfl (Nat.le_of_ble_eq_true rfl) rfl ?_)) | (refine AOps.st0 rfl rfl (op_store (i := 6) rfl ts_3 rfl rfl rfl rfl rfl (Nat.le_of_ble_eq_true rfl) rfl ?_)) | (refine AOps.st0 rfl rfl (op_store (i := 7) rfl ts_3 rfl rfl rfl rfl rfl (Nat.le_of_ble_eq_true rfl) rfl ?_)) | (refine AOps.st0 rfl rfl (op_store (i := 8) rfl ts_3 rfl rfl rfl rfl rfl (Nat.le_of_ble_eq_true rfl) rfl ?_)) | (refine AOps.st0 rfl rfl (op_store (i := 9) rfl ts_3 rfl rfl rfl rfl rfl (Nat.le_of_ble_eq_true rfl) rfl ?_))
          refine AOps.nil ?_
          refine go_code ?_
          refine c_seq ?_
          refine c_freeze (i := 5) (al' := [(8, .seq 1 (R.map iv))]) rfl rfl (fun e he => by obtain ⟨x, _, rfl⟩ := List.mem_map.1 he; rfl) rfl (by omega) (Frz.arr rfl Frz.nil) ?_
          refine c_region ?_
          refine AOps.st 134 rfl rfl rfl (op_move rfl rfl ?_)
          refine AOps.st 4 rfl rfl rfl (op_assign rfl rfl ?_)
          refine AOps.nil ?_
          refine go_code ?_
          refine c_ret ?_
          exact out_tmp (M' := [_, _, _]) rfl rfl (Le.refl _) (.cons _ (.drop _ (.drop _ (.cons _ (.cons _ (MLe.none _)))))) ⟨rfl, false, tw, tcw, tb, tcb, _, _, rfl⟩
        · refine c_cond_t rfl ?_
          refine c_skip ?_
          refine go_code ?_
          refine c_block ?_
          refine c_seq ?_
          obtain ⟨o, ho⟩ := getk (l := H) (i := k) (by
            rcases Nat.lt_or_ge k H.length with q | q
            · exact q
            · exfalso
              have : adr H k = used H + 1 := by rw [adr, List.take_of_length_le q]
              omega)
          have hoH := List.mem_of_getElem? ho
          have hnx := adr_next ho
          have hfit := adr_fit ho
          obtain ⟨e1, e2, e3, e4⟩ := HO.open_ (hH o hoH)
          have hO := Open_p o.head (headW_lo _ _ _) (headW_hi _ _ _)
          rw [e1, e2, e3, e4, hT o hoH] at hO
          have hx2 : ((hw H).map iv)[adr H k]? = some [.val (.int .u64 o.head)] := by rw [List.getElem?_map, (obj_cells ho (fun _ _ => rfl)).1]; rfl
          have hlW : ((hw H).map iv).length = used H + 1 := by simpa using hw_len H
          refine c_region ?_
          first | (refine AOps.st 74 rfl rfl rfl (op_fieldAddr_m rfl tf_90_1 rfl ?_)) | (refine AOps.st 74 rfl rfl rfl (op_fieldAddr_c rfl tf_90_1 rfl rfl ?_))
          first | (refine AOps.st 75 rfl rfl rfl (op_load_m1 (i := 0) rfl ta_87 rfl rfl rfl ?_)) | (refine AOps.st 75 rfl rfl rfl (op_load_m1 (i := 1) rfl ta_87 rfl rfl rfl ?_)) | (refine AOps.st 75 rfl rfl rfl (op_load_m1 (i := 2) rfl ta_87 rfl rfl rfl ?_)) | (refine AOps.st 75 rfl rfl rfl (op_load_m1 (i := 3) rfl ta_87 rfl rfl rfl ?_)) | (refine AOps.st 75 rfl rfl rfl (op_load_m1 (i := 4) rfl ta_87 rfl rfl rfl ?_)) | (refine AOps.st 75 rfl rfl rfl (op_load_m1 (i := 5) rfl ta_87 rfl rfl rfl ?_)) | (refine AOps.st 75 rfl rfl rfl (op_load_m1 (i := 6) rfl ta_87 rfl rfl rfl ?_)) | (refine AOps.st 75 rfl rfl rfl (op_load_m1 (i := 7) rfl ta_87 rfl rfl rfl ?_)) | (refine AOps.st 75 rfl rfl rfl (op_load_m1 (i := 8) rfl ta_87 rfl rfl rfl ?_)) | (refine AOps.st 75 rfl rfl rfl (op_load_m1 (i := 9) rfl ta_87 rfl rfl rfl ?_)) | (refine AOps.st 75 rfl rfl rfl (op_load_c1 rfl ta_87 rfl rfl ?_))
          first | (refine AOps.st 76 rfl rfl rfl (op_nilCheck_m rfl rfl ?_)) | (refine AOps.st 76 rfl rfl rfl (op_nilCheck_c rfl rfl ?_)) | (refine AOps.st 76 rfl rfl rfl (op_nilCheck_f rfl rfl ?_))
          first | (refine AOps.st 77 rfl rfl rfl (op_fieldAddr_m rfl tf_77_0 rfl ?_)) | (refine AOps.st 77 rfl rfl rfl (op_fieldAddr_c rfl tf_77_0 rfl rfl ?_))
          first | (refine AOps.st 78 rfl rfl rfl (op_load_m1 (i := 0) rfl ta_34 rfl rfl rfl ?_)) | (refine AOps.st 78 rfl rfl rfl (op_load_m1 (i := 1) rfl ta_34 rfl rfl rfl ?_)) | (refine AOps.st 78 rfl rfl rfl (op_load_m1 (i := 2) rfl ta_34 rfl rfl rfl ?_)) | (refine AOps.st 78 rfl rfl rfl (op_load_m1 (i := 3) rfl ta_34 rfl rfl rfl ?_)) | (refine AOps.st 78 rfl rfl rfl (op_load_m1 (i := 4) rfl ta_34 rfl rfl rfl ?_)) | (refine AOps.st 78 rfl rfl rfl (op_load_m1 (i := 5) rfl ta_34 rfl rfl rfl ?_)) | (refine AOps.st 78 rfl rfl rfl (op_load_m1 (i := 6) rfl ta_34 rfl rfl rfl ?_)) | (refine AOps.st 78 rfl rfl rfl (op_load_m1 (i := 7) rfl ta_34 rfl rfl rfl ?_)) | (refine AOps.st 78 rfl rfl rfl (op_load_m1 (i := 8) rfl ta_34 rfl rfl rfl ?_)) | (refine AOps.st 78 rfl rfl rfl (op_load_m1 (i := 9) rfl ta_34 rfl rfl rfl ?_)) | (refine AOps.st 78 rfl rfl rfl (op_load_c1 rfl ta_34 rfl rfl ?_))
          refine AOps.st 79 rfl rfl rfl (op_move rfl rfl ?_)
          refine AOps.st 80 rfl rfl rfl (op_index_row (i := 3) (k := adr H k) rfl te_34 rfl rfl rfl (by first | rfl | omega) (by omega) ?_)
          refine AOps.st 81 rfl rfl rfl (op_load_row1 (i := 3) (k := adr H k) (f := 0) rfl ta_42 rfl rfl rfl (hx2) rfl ?_)
          refine AOps.st 82 rfl rfl rfl (op_callp (xs := [.tmp 81]) rfl rfl (hO) (by first | exact Les.refl _ | (repeat' (first | exact Les.refl _ | refine Les.cons ?_ ?_ | exact Le.refl _ | exact Le.own _ _ _ | exact Le.nil _ | refine Le.agg ?_))) ?_)
          refine AOps.st 73 rfl rfl rfl (op_move rfl rfl ?_)
          refine AOps.st 83 rfl rfl rfl (op_extract rfl rfl rfl ?_)
          refine AOps.st 84 rfl rfl rfl (op_extract rfl rfl rfl ?_)
          refine AOps.st 85 rfl rfl rfl (op_extract rfl rfl rfl ?_)
          refine AOps.st 86 rfl rfl rfl (op_extract rfl rfl rfl ?_)
          refine AOps.st 12 rfl rfl rfl (op_assign rfl rfl ?_)
          refine AOps.st 13 rfl rfl rfl (op_assign rfl rfl ?_)
          refine AOps.st 14 rfl rfl rfl (op_assign rfl rfl ?_)
          refine AOps.st 15 rfl rfl rfl (op_assign rfl rfl ?_)
          refine AOps.nil ?_
          refine go_code ?_
          refine c_seq ?_
          refine c_seq ?_
          refine c_region ?_
          refine AOps.st 87 rfl rfl rfl (op_move rfl rfl ?_)
          first | (refine AOps.st 88 rfl rfl rfl (op_add rfl rfl rfl (IntWalk.i64_in _ (by omega)) ?_)) | (refine AOps.st 88 rfl rfl rfl (op_add rfl rfl rfl rfl ?_))
          refine AOps.st 16 rfl rfl rfl (op_assign rfl rfl ?_)
          refine AOps.nil ?_
          refine go_code ?_
          refine c_block ?_
          apply c_loopkm [1, 2, 3, 9, 10, 13, 15, 16, 17, 18, 19, 20, 21, 22, 23, 24, 25, 26, 27, 28, 29, 30, 31, 32, 33, 34, 35, 36, 37, 38, 39, 40, 41, 42, 43, 44, 45, 46, 47, 48, 49, 50, 51, 52, 53, 54, 55, 56, 57, 58, 59, 60, 61, 62, 63, 64, 89, 90, 91, 92, 93, 94, 95, 96, 97, 98, 99, 100, 101, 102, 103, 104, 105, 106, 107, 108, 109, 110, 111, 112, 113, 114, 115, 116] (σ := Nat) (fun zz => match zz with | z => [(16, .val (.int .i64 (adr H k + 1)))]) (fun zz => match zz with | z => True) (fun zz => match zz with | z => z) (0)
          · repeat' (first | exact Drops.nil | apply Drops.keep rfl | apply Drops.skip rfl)
          · exact trivial
          · exact (by repeat' (first | exact SLe.nil _ | refine SLe.cons rfl ?_ ?_ | exact Le.refl _ | exact Le.own _ _ _ | exact Le.nil _))
          rintro z hI
          try dsimp only [List.cons_append, List.nil_append] at hI ⊢
          refine c_seq ?_
          refine c_seq ?_
          refine c_bool 97 (False) ?_ _ _ rfl ?_
          · skip
            refine AOps.st 89 rfl rfl rfl (op_move rfl rfl ?_)
            refine AOps.st 90 rfl rfl rfl (op_neq rfl rfl rfl ?_); intro c90 h90
            refine AOps.st 91 rfl rfl rfl (op_move rfl rfl ?_)
            rcases bool_split h90 with ⟨rfl, g90⟩ | ⟨rfl, g90⟩
            · skip
              refine AOps.gf 92 rfl rfl rfl rfl rfl ?_
              refine AOps.gf 93 rfl rfl rfl rfl rfl ?_
              refine AOps.gf 94 rfl rfl rfl rfl rfl ?_
              refine AOps.gf 95 rfl rfl rfl rfl rfl ?_
              refine AOps.gf 96 rfl rfl rfl rfl rfl ?_
              refine AOps.st 97 rfl rfl rfl (op_pick rfl rfl rfl ?_)
              refine AOps.nil ?_
              refine BoolQ.mk rfl ?_ (by repeat' (first | exact SLe.wo _ _ | exact SLe.refl _ | refine SLe.fresh rfl ?_)) (by first | exact MLe.none _ | exact MLe.refl _ | (repeat' (first | exact MLe.nil | exact MLe.refl _ | refine MLe.cons _ ?_ | refine MLe.drop _ ?_)))
              first | (simp_all; done) | (simp_all; omega)
            · skip
              refine AOps.gt 92 rfl rfl rfl rfl rfl (op_move rfl rfl ?_)
              refine AOps.gt 93 rfl rfl rfl rfl rfl (op_move rfl rfl ?_)
              refine AOps.gt 94 rfl rfl rfl rfl rfl (op_move rfl rfl ?_)
              first | (refine AOps.gt 95 rfl rfl rfl rfl rfl (op_add rfl rfl rfl (IntWalk.i64_in _ (by omega)) ?_)) | (refine AOps.gt 95 rfl rfl rfl rfl rfl (op_add rfl rfl rfl rfl ?_))
              refine AOps.gt 96 rfl rfl rfl rfl rfl (op_leq rfl rfl rfl ?_); intro c96 h96
              refine AOps.st 97 rfl rfl rfl (op_pick rfl rfl rfl ?_)
              refine AOps.nil ?_
              refine BoolQ.mk rfl ?_ (by repeat' (first | exact SLe.wo _ _ | exact SLe.refl _ | refine SLe.fresh rfl ?_)) (by first | exact MLe.none _ | exact MLe.refl _ | (repeat' (first | exact MLe.nil | exact MLe.refl _ | refine MLe.cons _ ?_ | refine MLe.drop _ ?_)))
              first | (simp_all; done) | (simp_all; omega)
          intro c97 h97
          refine go_code ?_
          rcases bool_split h97 with ⟨rfl, g97⟩ | ⟨rfl, g97⟩
          · refine c_cond_f rfl ?_
            refine c_exit ?_
            refine x_code ?_
            refine x_lp ?_
            refine x_here ?_
            refine go_code ?_
            refine c_region ?_
            refine AOps.st 117 rfl rfl rfl (op_move rfl rfl ?_)
            refine AOps.st 118 rfl rfl rfl (op_move rfl rfl ?_)
            first | (refine AOps.st 119 rfl rfl rfl (op_add rfl rfl rfl (IntWalk.i64_in _ (by omega)) ?_)) | (refine AOps.st 119 rfl rfl rfl (op_add rfl rfl rfl rfl ?_))
            first | (refine AOps.st 120 rfl rfl rfl (op_add rfl rfl rfl (IntWalk.i64_in _ (by omega)) ?_)) | (refine AOps.st 120 rfl rfl rfl (op_add rfl rfl rfl rfl ?_))
            refine AOps.st 11 rfl rfl rfl (op_assign rfl rfl ?_)
            refine AOps.nil ?_
            refine go_blk ?_
            refine go_lp ?_
            exact ⟨k + 1, by have := get_lt ho; omega, by have := get_lt ho; show H.length - (k + 1) < H.length - k; omega, SLe.cons rfl (Le.ieq (by omega)) (by repeat' (first | exact SLe.nil _ | refine SLe.cons rfl ?_ ?_ | exact Le.refl _ | exact Le.own _ _ _ | exact Le.nil _)), (by first | exact MLe.none _ | exact MLe.refl _ | (repeat' (first | exact MLe.nil | exact MLe.refl _ | refine MLe.cons _ ?_ | refine MLe.drop _ ?_)))⟩
          · refine c_cond_t rfl ?_
            refine c_skip ?_
            refine go_code ?_
            refine c_seq ?_
            refine c_block ?_
            exact g97.elim
      · refine c_cond_t rfl ?_
        refine c_skip ?_
        refine go_code ?_
        refine c_seq ?_
        refine c_block ?_
        refine c_seq ?_
        obtain ⟨o, ho⟩ := getk (l := H) (i := k) (by omega)
        have hgk := hg k (by omega)
        have hoH := List.mem_of_getElem? ho
        obtain ⟨a1, a2⟩ := obj_cells ho hWj
        obtain ⟨a', b1, b2, b3, b4, b5, b6⟩ := at_some hu (objOf_adr ho)
        have haa : atV (2 * ((adr H k : Nat) : Int)) = ((adr H k : Nat) : Int) := by rw [b1]; unfold atV at b1; split at b1 <;> omega
        have hfit := adr_fit ho
        have hstep := fill_step (z := iv 0) hlR hgk
        have hwid : ∀ e ∈ (R.map iv).take k ++ List.replicate (H.length - k) (iv 0), e.length = 1 := fun e he => by
          rcases List.mem_append.1 he with he | he
          · obtain ⟨x, _, rfl⟩ := List.mem_map.1 (List.mem_of_mem_take he); rfl
          · rw [(List.mem_replicate.1 he).2]; rfl
        have hmv := move_c true b (.val (.int .i64 sz)) gw cw gb cb tw tcw tb tcb W H (H.take k) o (2 * ((adr H k : Nat) : Int)) (by omega) (by omega) hu (by have := used_take H k; omega) hWl (adr H k) haa b2 (hH o hoH) a1 a2 hfit
        refine c_region ?_
        refine AOps.st 55 rfl rfl rfl (op_move rfl rfl ?_)
        first | (refine AOps.st 56 rfl rfl rfl (op_index rfl te_34 rfl (.seq _ _) rfl rfl (hgk) ?_)) | (refine AOps.st 56 rfl rfl rfl (op_index (i := 0) rfl te_34 rfl (.seq _ _) rfl rfl (by first | rfl | assumption) ?_)) | (refine AOps.st 56 rfl rfl rfl (op_index (i := 1) rfl te_34 rfl (.seq _ _) rfl rfl (by first | rfl | assumption) ?_)) | (refine AOps.st 56 rfl rfl rfl (op_index rfl te_34 rfl (.own _ _ _) rfl rfl (hgk) ?_)) | (refine AOps.st 56 rfl rfl rfl (op_index (i := 0) rfl te_34 rfl (.own _ _ _) rfl rfl (by first | rfl | assumption) ?_)) | (refine AOps.st 56 rfl rfl rfl (op_index (i := 1) rfl te_34 rfl (.own _ _ _) rfl rfl (by first | rfl | assumption) ?_)) | (refine AOps.st 56 rfl rfl rfl (op_index_arr rfl te_34 rfl rfl rfl (by omega) ?_))
        first | (refine AOps.st 57 rfl rfl rfl (op_load_m1 (i := 0) rfl ta_42 rfl rfl rfl ?_)) | (refine AOps.st 57 rfl rfl rfl (op_load_m1 (i := 1) rfl ta_42 rfl rfl rfl ?_)) | (refine AOps.st 57 rfl rfl rfl (op_load_m1 (i := 2) rfl ta_42 rfl rfl rfl ?_)) | (refine AOps.st 57 rfl rfl rfl (op_load_m1 (i := 3) rfl ta_42 rfl rfl rfl ?_)) | (refine AOps.st 57 rfl rfl rfl (op_load_m1 (i := 4) rfl ta_42 rfl rfl rfl ?_)) | (refine AOps.st 57 rfl rfl rfl (op_load_m1 (i := 5) rfl ta_42 rfl rfl rfl ?_)) | (refine AOps.st 57 rfl rfl rfl (op_load_m1 (i := 6) rfl ta_42 rfl rfl rfl ?_)) | (refine AOps.st 57 rfl rfl rfl (op_load_m1 (i := 7) rfl ta_42 rfl rfl rfl ?_)) | (refine AOps.st 57 rfl rfl rfl (op_load_m1 (i := 8) rfl ta_42 rfl rfl rfl ?_)) | (refine AOps.st 57 rfl rfl rfl (op_load_m1 (i := 9) rfl ta_42 rfl rfl rfl ?_)) | (refine AOps.st 57 rfl rfl rfl (op_load_c1 rfl ta_42 rfl rfl ?_))
        refine AOps.st 9 rfl rfl rfl (op_assign rfl rfl ?_)
        refine AOps.st 10 rfl rfl rfl (op_assign rfl rfl ?_)
        refine AOps.nil ?_
        refine go_code ?_
        refine c_region ?_
        refine AOps.st 58 rfl rfl rfl (op_move rfl rfl ?_)
        refine AOps.st 59 rfl rfl rfl (op_move rfl rfl ?_)
        refine AOps.st 60 rfl rfl rfl (op_move rfl rfl ?_)
        refine AOps.st 61 rfl rfl rfl (op_move rfl rfl ?_)
        refine AOps.st 62 rfl rfl rfl (op_callvat [0,0,0,0,0] (xs := [.tmp 61])  rfl rfl rfl rfl hmv (by first | exact Les.refl _ | (repeat' (first | exact Les.refl _ | refine Les.cons ?_ ?_ | exact Le.refl _ | exact Le.own _ _ _ | exact Le.nil _ | refine Le.agg ?_))) ?_)
        rintro v1 M1 ⟨rfl, tw2, tcw2, tb2, tcb2, rfl⟩
        first | (refine AOps.st 63 rfl rfl rfl (op_index rfl te_34 rfl (.seq _ _) rfl rfl (by assumption) ?_)) | (refine AOps.st 63 rfl rfl rfl (op_index (i := 0) rfl te_34 rfl (.seq _ _) rfl rfl (by first | rfl | assumption) ?_)) | (refine AOps.st 63 rfl rfl rfl (op_index (i := 1) rfl te_34 rfl (.seq _ _) rfl rfl (by first | rfl | assumption) ?_)) | (refine AOps.st 63 rfl rfl rfl (op_index rfl te_34 rfl (.own _ _ _) rfl rfl (by assumption) ?_)) | (refine AOps.st 63 rfl rfl rfl (op_index (i := 0) rfl te_34 rfl (.own _ _ _) rfl rfl (by first | rfl | assumption) ?_)) | (refine AOps.st 63 rfl rfl rfl (op_index (i := 1) rfl te_34 rfl (.own _ _ _) rfl rfl (by first | rfl | assumption) ?_)) | (refine AOps.st 63 rfl rfl rfl (op_index_arr rfl te_34 rfl rfl rfl (by omega) ?_))
        refine AOps.st0 rfl rfl (op_store_row (k := 5) rfl ts_42 rfl rfl rfl rfl rfl (hwid) ((by simp; omega)) ?_)
        refine AOps.nil ?_
        refine go_blk ?_
        refine go_code ?_
        refine c_region ?_
        first | (refine AOps.st 64 rfl rfl rfl (op_add rfl rfl rfl (IntWalk.i64_in _ (by omega)) ?_)) | (refine AOps.st 64 rfl rfl rfl (op_add rfl rfl rfl rfl ?_))
        refine AOps.st 53 rfl rfl rfl (op_move rfl rfl ?_)
        refine AOps.nil ?_
        refine go_lp ?_
        refine ⟨(k + 1, W.set (adr H k) (2 * ((adr H k : Nat) : Int)), tw2, tcw2, tb2, tcb2), ⟨by omega, by simpa using hWl, fun j hj => ?_⟩, by show H.length - (k + 1) < _; omega, (by repeat' (first | exact SLe.nil _ | refine SLe.cons rfl ?_ ?_ | exact Le.refl _ | exact Le.own _ _ _ | exact Le.nil _)), ?_⟩
        · rw [adr_next ho] at hj
          rw [List.getElem?_set_ne (by omega)]
          exact hWj j (by omega)
        · refine MLe.of_eq ?_
          dsimp only
          rw [take_next ho, ← hstep]
          rfl
    · refine c_cond_t rfl ?_
      refine c_seq ?_
      exact absurd h19 (by simp)
end Go.Proofs.Ytecpnlhjjmcllaa
