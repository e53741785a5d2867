/- Parts of a proof: heap: Collect, of a heap that holds texts alone, for the words of all of them in order.; Plain: bytes packed into words, eight a word, the first byte lowest.; word.Pack; Slices that are read: a slice value of n elements, each of so many cells, whose cells are xs.; cognateref02.Same; The append of one element to a slice of the call's own, in one law: what is owned behind it, and that nothing below B has turned.; cognateref02.Pack; Plain: words unpacked into bytes; when packing gives the words back.; word.Unpack; word.Unpack at what it refuses; cognateref02.Unpack; Bytes as a text.; Packing and unpacking of texts, in the words of the logic.; Plain texts as objects: which objects are texts.; cognateref31: Used, Find, Alloc.; strs: Need, Put, words, Get, Len, two, Cat; cognateref32.Need, Put. -/
import Derived.Test.YtecpnlhjjmcllaaJLSTwo4
import Derived.BigRegion
import Derived.WalkKit
import Derived.Lib.Hide
import Derived.Deep.QuietTactic
import Derived.BigQuiet
import Derived.Maps.AppendAt
import Derived.Laws.AppendOwnNone
import Derived.Laws.BytesArg
import Derived.WideShapes
namespace Go.Proofs.Ytecpnlhjjmcllaa
open Go.RowKit
theorem getk {α : Type} {l : List α} {i : Nat} (h : i < l.length) : ∃ x, l[i]? = some x := ⟨l[i], List.getElem?_eq_getElem h⟩
theorem take_next {α : Type} {l : List α} {k : Nat} {x : α} (h : l[k]? = some x) : l.take (k + 1) = l.take k ++ [x] := by
  rw [List.take_add_one, h]; rfl
theorem objFrom_at : ∀ (H : List HO) (a k : Nat) (o : HO), H[k]? = some o → objFrom a H (2 * ((a + used (H.take k) : Nat) : Int)) = some o
  | [], a, k, o, h => by simp at h
  | x :: H, a, 0, o, h => by simp at h; subst h; rw [objFrom, if_pos (by simp [used_nil])]
  | x :: H, a, k + 1, o, h => by
    simp at h
    rw [List.take_succ_cons, used_cons, objFrom, if_neg (by omega)]
    have := objFrom_at H (a + 1 + x.parts.length) k o h
    rw [← this]; congr 2; omega
def adr (H : List HO) (k : Nat) : Nat := used (H.take k) + 1
theorem objOf_adr {H : List HO} {k : Nat} {o : HO} (h : H[k]? = some o) : objOf H (2 * ((adr H k : Nat) : Int)) = some o := by rw [adr, Nat.add_comm]; exact objFrom_at H 1 k o h
theorem used_take (H : List HO) (k : Nat) : used (H.take k) ≤ used H := by
  conv => rhs; rw [← List.take_append_drop k H]
  rw [used_app]; omega
theorem adr_next {H : List HO} {k : Nat} {o : HO} (h : H[k]? = some o) : adr H (k + 1) = adr H k + 1 + o.parts.length := by
  unfold adr; rw [take_next h, used_app, used_one]; omega
theorem adr_fit {H : List HO} {k : Nat} {o : HO} (h : H[k]? = some o) : adr H k + 1 + o.parts.length ≤ used H + 1 := by
  have := used_take H (k + 1)
  rw [take_next h, used_app, used_one] at this
  unfold adr; omega
theorem hw_split {H : List HO} {k : Nat} {o : HO} (h : H[k]? = some o) : (hw H).drop (adr H k) = o.ws ++ hwT (H.drop (k + 1)) := by
  have e : H = H.take k ++ o :: H.drop (k + 1) := by
    obtain ⟨hk, rfl⟩ := List.getElem?_eq_some_iff.1 h
    rw [← List.drop_eq_getElem_cons hk, List.take_append_drop]
  have e2 : hw H = (0 :: hwT (H.take k)) ++ (o.ws ++ hwT (H.drop (k + 1))) := by
    conv => lhs; rw [e]
    rw [hw, hwT_app, hwT_cons]; rfl
  rw [e2]
  exact List.drop_left' (by simp [adr, used])
/-- what lies at the k-th object -/
theorem obj_cells {H : List HO} {k : Nat} {o : HO} (h : H[k]? = some o) {W : List Int} (hw' : ∀ j, adr H k ≤ j → W[j]? = (hw H)[j]?) : W[adr H k]? = some o.head ∧ (W.drop (adr H k + 1)).take o.parts.length = o.parts := by
  have e : W.drop (adr H k) = o.ws ++ hwT (H.drop (k + 1)) := by
    rw [← hw_split h]
    apply List.ext_getElem?
    intro i
    rw [List.getElem?_drop, List.getElem?_drop, hw' _ (by omega)]
  constructor
  · have := congrArg (fun l => l[0]?) e
    simpa [HO.ws] using this
  · rw [← List.drop_drop, e, HO.ws]
    simp
theorem fill_step {α : Type} {l : List α} {n k : Nat} {z x : α} (hn : l.length = n) (hk : l[k]? = some x) : (l.take k ++ List.replicate (n - k) z).set k x = l.take (k + 1) ++ List.replicate (n - (k + 1)) z := by
  have hkl := get_lt hk
  subst hn
  rw [List.set_append_right _ _ (by rw [List.length_take]; omega), List.length_take, Nat.min_eq_left (by omega), Nat.sub_self, take_next hk, show l.length - k = (l.length - (k + 1)) + 1 by omega, List.replicate_succ]
  simp
set_option maxHeartbeats 4000000 in
set_option maxRecDepth 100000 in
theorem Collect_c (b : Nat) (sz : Int) (H : List HO) (M : Mem) (hM : HeapAt b sz H M) (h : 0 < sz) (hH : ∀ o ∈ H, o.ok) (hu : used H ≤ 16777216) (hT : ∀ o ∈ H, o.kind = 3) (R : List Int) (hR : R = (List.range H.length).map (fun k => 2 * ((adr H k : Nat) : Int))) (hlen : H.length ≤ 1000000) :
    ACall Try.prog 20 [.ptr b 0, .seq 1 (R.map iv)] M (fun v M' => v = .seq 1 (R.map iv) ∧ HeapAt b sz H M') := by
  have hRl : R.length = H.length := by rw [hR]; simp
  have hRk : ∀ k, k < H.length → R[k]? = some (2 * ((adr H k : Nat) : Int)) := fun k hk => by rw [hR]; simp [hk]
  have hlR : (R.map iv).length = H.length := by simpa using hRl
  have hg : ∀ k, k < H.length → (R.map iv)[k]? = some [.val (.int .u64 (2 * ((adr H k : Nat) : Int)))] := fun k hk => by rw [List.getElem?_map, hRk k hk]; rfl
  obtain ⟨now, gw, cw, gb, cb, x, y, rfl⟩ := hM
  cases now
  · dsimp only [spc]
    refine ACall.enter Try.func20 rfl (by kernel_rfl) rfl (Nat.le_of_ble_eq_true rfl) ?_
    refine c_start ?_
    refine c_seq ?_
    refine c_region ?_
    refine AOps.st 4 rfl rfl rfl (op_assign rfl rfl ?_)
    refine AOps.nil ?_
    refine go_code ?_
    refine c_seq ?_
    refine c_seq ?_
    refine c_region ?_
    refine AOps.st 17 rfl rfl rfl (op_move rfl rfl ?_)
    refine AOps.st 18 rfl rfl rfl (op_callk (xs := [.tmp 17]) [0] rfl rfl rfl (is_c b sz _ rfl h) (by first | exact Les.refl _ | (repeat' (first | exact Les.refl _ | refine Les.cons ?_ ?_ | exact Le.refl _ | exact Le.own _ _ _ | exact Le.nil _ | refine Le.agg ?_))) ?_)
    refine AOps.st 19 rfl rfl rfl (op_notc rfl rfl ?_); intro c19 h19
    try replace h19 := nott h19 h18
    refine AOps.nil ?_
    refine go_code ?_
    rcases bool_split h19 with ⟨rfl, g19⟩ | ⟨rfl, g19⟩
    · refine c_cond_f rfl ?_
      refine c_skip ?_
      refine go_code ?_
      refine c_seq ?_
      refine c_region ?_
      refine AOps.st 21 rfl rfl rfl (op_move rfl rfl ?_)
      first | (refine AOps.st 22 rfl rfl rfl (op_nilCheck_m rfl rfl ?_)) | (refine AOps.st 22 rfl rfl rfl (op_nilCheck_c rfl rfl ?_)) | (refine AOps.st 22 rfl rfl rfl (op_nilCheck_f rfl rfl ?_))
      first | (refine AOps.st 23 rfl rfl rfl (op_fieldAddr_m rfl tf_81_2 rfl ?_)) | (refine AOps.st 23 rfl rfl rfl (op_fieldAddr_c rfl tf_81_2 rfl rfl ?_))
      first | (refine AOps.st 24 rfl rfl rfl (op_load_m1 (i := 0) rfl ta_3 rfl rfl rfl ?_)) | (refine AOps.st 24 rfl rfl rfl (op_load_m1 (i := 1) rfl ta_3 rfl rfl rfl ?_)) | (refine AOps.st 24 rfl rfl rfl (op_load_m1 (i := 2) rfl ta_3 rfl rfl rfl ?_)) | (refine AOps.st 24 rfl rfl rfl (op_load_m1 (i := 3) rfl ta_3 rfl rfl rfl ?_)) | (refine AOps.st 24 rfl rfl rfl (op_load_m1 (i := 4) rfl ta_3 rfl rfl rfl ?_)) | (refine AOps.st 24 rfl rfl rfl (op_load_m1 (i := 5) rfl ta_3 rfl rfl rfl ?_)) | (refine AOps.st 24 rfl rfl rfl (op_load_m1 (i := 6) rfl ta_3 rfl rfl rfl ?_)) | (refine AOps.st 24 rfl rfl rfl (op_load_m1 (i := 7) rfl ta_3 rfl rfl rfl ?_)) | (refine AOps.st 24 rfl rfl rfl (op_load_m1 (i := 8) rfl ta_3 rfl rfl rfl ?_)) | (refine AOps.st 24 rfl rfl rfl (op_load_m1 (i := 9) rfl ta_3 rfl rfl rfl ?_)) | (refine AOps.st 24 rfl rfl rfl (op_load_c1 rfl ta_3 rfl rfl ?_))
      first | (refine AOps.st 25 rfl rfl rfl (op_sub rfl rfl rfl (IntWalk.i64_in _ (by omega)) ?_)) | (refine AOps.st 25 rfl rfl rfl (op_sub rfl rfl rfl rfl ?_))
      refine AOps.st 5 rfl rfl rfl (op_assign rfl rfl ?_)
      refine AOps.nil ?_
      refine go_code ?_
      refine c_seq ?_
      refine c_drawnE [0, 1, 3, 4, 2, 5, 6] [2, 6] [[], [], [], [0], [0, 3], [0, 1, 2, 3, 4], [0, 1, 2, 3, 4, 5]] tmix rfl ?_
      refine EOps.d 26 (none) (i := 0) rfl rfl rfl rfl rfl (op_move rfl rfl ⟨rfl, rfl⟩) ?_
      refine EOps.d 27 (none) (i := 1) rfl rfl rfl rfl rfl (op_move rfl rfl ⟨rfl, rfl⟩) ?_
      first | (refine EOps.d 29 (none) (i := 3) rfl rfl rfl rfl rfl (op_nilCheck_m rfl rfl ⟨rfl, rfl⟩) ?_) | (refine EOps.d 29 (none) (i := 3) rfl rfl rfl rfl rfl (op_nilCheck_c rfl rfl ⟨rfl, rfl⟩) ?_) | (refine EOps.d 29 (none) (i := 3) rfl rfl rfl rfl rfl (op_nilCheck_f rfl rfl ⟨rfl, rfl⟩) ?_)
      first | (refine EOps.d 30 (none) (i := 4) rfl rfl rfl rfl rfl (op_fieldAddr_m rfl tf_81_1 rfl ⟨rfl, rfl⟩) ?_) | (refine EOps.d 30 (none) (i := 4) rfl rfl rfl rfl rfl (op_fieldAddr_c rfl tf_81_1 rfl rfl ⟨rfl, rfl⟩) ?_)
      refine EOps.nws (i := 2) rfl rfl rfl (op_callat [] (xs := []) rfl rfl rfl (empty_c) (by first | exact Les.refl _ | (repeat' (first | exact Les.refl _ | refine Les.cons ?_ ?_ | exact Le.refl _ | exact Le.own _ _ _ | exact Le.nil _ | refine Le.agg ?_))) ?_)
      rintro v1 M1 ⟨g1, g2, rfl, rfl⟩
      first | (refine EOps.d 31 (none) (i := 5) rfl rfl rfl rfl rfl (op_index_arrm (k := 0) rfl tu_79 ts_77 rfl rfl rfl (by decide) ⟨rfl, rfl⟩) ?_) | (refine EOps.d 31 (none) (i := 5) rfl rfl rfl rfl rfl (op_index_arrm (k := 1) rfl tu_79 ts_77 rfl rfl rfl (by decide) ⟨rfl, rfl⟩) ?_)
      first | (refine EOps.w 0 (i := 6) rfl rfl rfl rfl rfl (op_store (i := 0) rfl ts_77 rfl rfl rfl rfl rfl (Nat.le_of_ble_eq_true rfl) rfl ⟨_, rfl, ?_⟩)) | (refine EOps.w 1 (i := 6) rfl rfl rfl rfl rfl (op_store (i := 0) rfl ts_77 rfl rfl rfl rfl rfl (Nat.le_of_ble_eq_true rfl) rfl ⟨_, rfl, ?_⟩)) | (refine EOps.w 2 (i := 6) rfl rfl rfl rfl rfl (op_store (i := 0) rfl ts_77 rfl rfl rfl rfl rfl (Nat.le_of_ble_eq_true rfl) rfl ⟨_, rfl, ?_⟩)) | (refine EOps.w 3 (i := 6) rfl rfl rfl rfl rfl (op_store (i := 0) rfl ts_77 rfl rfl rfl rfl rfl (Nat.le_of_ble_eq_true rfl) rfl ⟨_, rfl, ?_⟩)) | (refine EOps.w 4 (i := 6) rfl rfl rfl rfl rfl (op_store (i := 0) rfl ts_77 rfl rfl rfl rfl rfl (Nat.le_of_ble_eq_true rfl) rfl ⟨_, rfl, ?_⟩)) | (refine EOps.w 5 (i := 6) rfl rfl rfl rfl rfl (op_store (i := 0) rfl ts_77 rfl rfl rfl rfl rfl (Nat.le_of_ble_eq_true rfl) rfl ⟨_, rfl, ?_⟩)) | (refine EOps.w 6 (i := 6) rfl rfl rfl rfl rfl (op_store (i := 0) rfl ts_77 rfl rfl rfl rfl rfl (Nat.le_of_ble_eq_true rfl) rfl ⟨_, rfl, ?_⟩)) | (refine EOps.w 7 (i := 6) rfl rfl rfl rfl rfl (op_store (i := 0) rfl ts_77 rfl rfl rfl rfl rfl (Nat.le_of_ble_eq_true rfl) rfl ⟨_, rfl, ?_⟩)) | (refine EOps.w 8 (i := 6) rfl rfl rfl rfl rfl (op_store (i := 0) rfl ts_77 rfl rfl rfl rfl rfl (Nat.le_of_ble_eq_true rfl) rfl ⟨_, rfl, ?_⟩)) | (refine EOps.w 9 (i := 6) rfl rfl rfl rfl rfl (op_store (i := 0) rfl ts_77 rfl rfl rfl rfl rfl (Nat.le_of_ble_eq_true rfl) rfl ⟨_, rfl, ?_⟩))
      show AGo _ _ _ _ _ _ _
      refine go_code ?_
      refine c_seq ?_
      refine c_drawnE [0, 1, 2, 3, 4, 5, 6, 7, 8, 9, 10, 11, 12, 13, 14, 15] [14, 15] [[], [], [1], [1, 2], [1, 2, 3], [0], [0, 5], [0, 1, 2, 3, 4, 5, 6], [], [], [8], [8, 10], [8, 9, 10, 11], [0, 1, 2, 3, 4, 5, 6, 7, 8, 9, 10, 11, 12], [], [0, 1, 2, 3, 4, 5, 6, 7, 8, 9, 10, 11, 12, 13, 14]] tmix rfl ?_
      refine EOps.d 32 (none) (i := 0) rfl rfl rfl rfl rfl (op_move rfl rfl ⟨rfl, rfl⟩) ?_
      refine EOps.d 33 (none) (i := 1) rfl rfl rfl rfl rfl (op_move rfl rfl ⟨rfl, rfl⟩) ?_
      first | (refine EOps.d 34 (none) (i := 2) rfl rfl rfl rfl rfl (op_nilCheck_m rfl rfl ⟨rfl, rfl⟩) ?_) | (refine EOps.d 34 (none) (i := 2) rfl rfl rfl rfl rfl (op_nilCheck_c rfl rfl ⟨rfl, rfl⟩) ?_) | (refine EOps.d 34 (none) (i := 2) rfl rfl rfl rfl rfl (op_nilCheck_f rfl rfl ⟨rfl, rfl⟩) ?_)
      first | (refine EOps.d 35 (none) (i := 3) rfl rfl rfl rfl rfl (op_fieldAddr_m rfl tf_81_2 rfl ⟨rfl, rfl⟩) ?_) | (refine EOps.d 35 (none) (i := 3) rfl rfl rfl rfl rfl (op_fieldAddr_c rfl tf_81_2 rfl rfl ⟨rfl, rfl⟩) ?_)
      first | (refine EOps.d 36 (some 0) (i := 4) rfl rfl rfl rfl rfl (op_load_m1 (i := 0) rfl ta_3 rfl rfl rfl ⟨rfl, rfl⟩) ?_) | (refine EOps.d 36 (some 1) (i := 4) rfl rfl rfl rfl rfl (op_load_m1 (i := 0) rfl ta_3 rfl rfl rfl ⟨rfl, rfl⟩) ?_) | (refine EOps.d 36 (some 2) (i := 4) rfl rfl rfl rfl rfl (op_load_m1 (i := 0) rfl ta_3 rfl rfl rfl ⟨rfl, rfl⟩) ?_) | (refine EOps.d 36 (some 3) (i := 4) rfl rfl rfl rfl rfl (op_load_m1 (i := 0) rfl ta_3 rfl rfl rfl ⟨rfl, rfl⟩) ?_) | (refine EOps.d 36 (some 4) (i := 4) rfl rfl rfl rfl rfl (op_load_m1 (i := 0) rfl ta_3 rfl rfl rfl ⟨rfl, rfl⟩) ?_) | (refine EOps.d 36 (some 5) (i := 4) rfl rfl rfl rfl rfl (op_load_m1 (i := 0) rfl ta_3 rfl rfl rfl ⟨rfl, rfl⟩) ?_) | (refine EOps.d 36 (some 6) (i := 4) rfl rfl rfl rfl rfl (op_load_m1 (i := 0) rfl ta_3 rfl rfl rfl ⟨rfl, rfl⟩) ?_) | (refine EOps.d 36 (some 7) (i := 4) rfl rfl rfl rfl rfl (op_load_m1 (i := 0) rfl ta_3 rfl rfl rfl ⟨rfl, rfl⟩) ?_) | (refine EOps.d 36 (some 8) (i := 4) rfl rfl rfl rfl rfl (op_load_m1 (i := 0) rfl ta_3 rfl rfl rfl ⟨rfl, rfl⟩) ?_) | (refine EOps.d 36 (some 9) (i := 4) rfl rfl rfl rfl rfl (op_load_m1 (i := 0) rfl ta_3 rfl rfl rfl ⟨rfl, rfl⟩) ?_) | (refine EOps.d 36 (none) (i := 4) rfl rfl rfl rfl rfl (op_load_c1 rfl ta_3 rfl rfl ⟨rfl, rfl⟩) ?_)
      first | (refine EOps.d 37 (none) (i := 5) rfl rfl rfl rfl rfl (op_nilCheck_m rfl rfl ⟨rfl, rfl⟩) ?_) | (refine EOps.d 37 (none) (i := 5) rfl rfl rfl rfl rfl (op_nilCheck_c rfl rfl ⟨rfl, rfl⟩) ?_) | (refine EOps.d 37 (none) (i := 5) rfl rfl rfl rfl rfl (op_nilCheck_f rfl rfl ⟨rfl, rfl⟩) ?_)
      first | (refine EOps.d 38 (none) (i := 6) rfl rfl rfl rfl rfl (op_fieldAddr_m rfl tf_81_1 rfl ⟨rfl, rfl⟩) ?_) | (refine EOps.d 38 (none) (i := 6) rfl rfl rfl rfl rfl (op_fieldAddr_c rfl tf_81_1 rfl rfl ⟨rfl, rfl⟩) ?_)
      first | (refine EOps.d 39 (none) (i := 7) rfl rfl rfl rfl rfl (op_index_arrm (k := 0) rfl tu_79 ts_77 rfl rfl rfl (by decide) ⟨rfl, rfl⟩) ?_) | (refine EOps.d 39 (none) (i := 7) rfl rfl rfl rfl rfl (op_index_arrm (k := 1) rfl tu_79 ts_77 rfl rfl rfl (by decide) ⟨rfl, rfl⟩) ?_)
      refine EOps.d 40 (none) (i := 8) rfl rfl rfl rfl rfl (op_move rfl rfl ⟨rfl, rfl⟩) ?_
      refine EOps.d 41 (none) (i := 9) rfl rfl rfl rfl rfl (op_move rfl rfl ⟨rfl, rfl⟩) ?_
      first | (refine EOps.d 42 (none) (i := 10) rfl rfl rfl rfl rfl (op_nilCheck_m rfl rfl ⟨rfl, rfl⟩) ?_) | (refine EOps.d 42 (none) (i := 10) rfl rfl rfl rfl rfl (op_nilCheck_c rfl rfl ⟨rfl, rfl⟩) ?_) | (refine EOps.d 42 (none) (i := 10) rfl rfl rfl rfl rfl (op_nilCheck_f rfl rfl ⟨rfl, rfl⟩) ?_)
      first | (refine EOps.d 43 (none) (i := 11) rfl rfl rfl rfl rfl (op_fieldAddr_m rfl tf_81_1 rfl ⟨rfl, rfl⟩) ?_) | (refine EOps.d 43 (none) (i := 11) rfl rfl rfl rfl rfl (op_fieldAddr_c rfl tf_81_1 rfl rfl ⟨rfl, rfl⟩) ?_)
      first | (refine EOps.d 44 (none) (i := 12) rfl rfl rfl rfl rfl (op_index_arrm (k := 0) rfl tu_79 ts_77 rfl rfl rfl (by decide) ⟨rfl, rfl⟩) ?_) | (refine EOps.d 44 (none) (i := 12) rfl rfl rfl rfl rfl (op_index_arrm (k := 1) rfl tu_79 ts_77 rfl rfl rfl (by decide) ⟨rfl, rfl⟩) ?_)
      refine EOps.d 45 (none) (i := 13) rfl rfl rfl rfl rfl (op_build (ns := [0, 1]) (xs := [.tmp 39, .tmp 44]) rfl tz_90 rfl tfl_90 rfl rfl rfl rfl ⟨rfl, rfl⟩) ?_
      refine EOps.nw (i := 14) rfl rfl rfl (op_alloce (cs' := [_, _]) rfl tz_90 rfl rfl (fun b6 => ⟨_, rfl, ?_⟩))
      first | (refine EOps.w 0 (i := 15) rfl rfl rfl rfl rfl (op_store (cs' := [_, _]) (i := 0) rfl ts_90 rfl rfl rfl rfl rfl (Nat.le_of_ble_eq_true rfl) rfl ⟨_, rfl, ?_⟩)) | (refine EOps.w 1 (i := 15) rfl rfl rfl rfl rfl (op_store (cs' := [_, _]) (i := 0) rfl ts_90 rfl rfl rfl rfl rfl (Nat.le_of_ble_eq_true rfl) rfl ⟨_, rfl, ?_⟩)) | (refine EOps.w 2 (i := 15) rfl rfl rfl rfl rfl (op_store (cs' := [_, _]) (i := 0) rfl ts_90 rfl rfl rfl rfl rfl (Nat.le_of_ble_eq_true rfl) rfl ⟨_, rfl, ?_⟩)) | (refine EOps.w 3 (i := 15) rfl rfl rfl rfl rfl (op_store (cs' := [_, _]) (i := 0) rfl ts_90 rfl rfl rfl rfl rfl (Nat.le_of_ble_eq_true rfl) rfl ⟨_, rfl, ?_⟩)) | (refine EOps.w 4 (i := 15) rfl rfl rfl rfl rfl (op_store (cs' := [_, _]) (i := 0) rfl ts_90 rfl rfl rfl rfl rfl (Nat.le_of_ble_eq_true rfl) rfl ⟨_, rfl, ?_⟩)) | (refine EOps.w 5 (i := 15) rfl rfl rfl rfl rfl (op_store (cs' := [_, _]) (i := 0) rfl ts_90 rfl rfl rfl rfl rfl (Nat.le_of_ble_eq_true rfl) rfl ⟨_, rfl, ?_⟩)) | (refine EOps.w 6 (i := 15) rfl rfl rfl rfl rfl (op_store (cs' := [_, _]) (i := 0) rfl ts_90 rfl rfl rfl rfl rfl (Nat.le_of_ble_eq_true rfl) rfl ⟨_, rfl, ?_⟩)) | (refine EOps.w 7 (i := 15) rfl rfl rfl rfl rfl (op_store (cs' := [_, _]) (i := 0) rfl ts_90 rfl rfl rfl rfl rfl (Nat.le_of_ble_eq_true rfl) rfl ⟨_, rfl, ?_⟩)) | (refine EOps.w 8 (i := 15) rfl rfl rfl rfl rfl (op_store (cs' := [_, _]) (i := 0) rfl ts_90 rfl rfl rfl rfl rfl (Nat.le_of_ble_eq_true rfl) rfl ⟨_, rfl, ?_⟩)) | (refine EOps.w 9 (i := 15) rfl rfl rfl rfl rfl (op_store (cs' := [_, _]) (i := 0) rfl ts_90 rfl rfl rfl rfl rfl (Nat.le_of_ble_eq_true rfl) rfl ⟨_, rfl, ?_⟩))
      show AGo _ _ _ _ _ _ _
      refine go_code ?_
      refine c_seq ?_
      refine c_region ?_
      first | (refine AOps.st 46 rfl rfl rfl (op_load_m (cs' := [_, _]) (i := 0) rfl ta_90 rfl rfl rfl rfl ?_)) | (refine AOps.st 46 rfl rfl rfl (op_load_m (cs' := [_, _]) (i := 1) rfl ta_90 rfl rfl rfl rfl ?_)) | (refine AOps.st 46 rfl rfl rfl (op_load_m (cs' := [_, _]) (i := 2) rfl ta_90 rfl rfl rfl rfl ?_)) | (refine AOps.st 46 rfl rfl rfl (op_load_m (cs' := [_, _]) (i := 3) rfl ta_90 rfl rfl rfl rfl ?_)) | (refine AOps.st 46 rfl rfl rfl (op_load_m (cs' := [_, _]) (i := 4) rfl ta_90 rfl rfl rfl rfl ?_)) | (refine AOps.st 46 rfl rfl rfl (op_load_m (cs' := [_, _]) (i := 5) rfl ta_90 rfl rfl rfl rfl ?_)) | (refine AOps.st 46 rfl rfl rfl (op_load_m (cs' := [_, _]) (i := 6) rfl ta_90 rfl rfl rfl rfl ?_)) | (refine AOps.st 46 rfl rfl rfl (op_load_m (cs' := [_, _]) (i := 7) rfl ta_90 rfl rfl rfl rfl ?_)) | (refine AOps.st 46 rfl rfl rfl (op_load_m (cs' := [_, _]) (i := 8) rfl ta_90 rfl rfl rfl rfl ?_)) | (refine AOps.st 46 rfl rfl rfl (op_load_m (cs' := [_, _]) (i := 9) rfl ta_90 rfl rfl rfl rfl ?_)) | (refine AOps.st 46 rfl rfl rfl (op_load_c (cs' := [_, _]) rfl ta_90 rfl rfl rfl ?_))
      refine AOps.st 47 rfl rfl rfl (op_makeFunc (fs := [.tmp 46]) (cs := []) rfl rfl rfl ?_)
      refine AOps.st 7 rfl rfl rfl (op_assign rfl rfl ?_)
      refine AOps.nil ?_
      refine go_code ?_
      refine c_seq ?_
      refine c_region ?_
      refine AOps.st 48 rfl rfl rfl (op_move rfl rfl ?_)
      first | (refine AOps.st 49 rfl rfl rfl (op_len rfl tu_34 rfl (.seq _ _) (fun n49 => ?_))) | (refine AOps.st 49 rfl rfl rfl (op_len rfl tu_34 rfl (.own _ _ _) (fun n49 => ?_))) | (refine AOps.st 49 rfl rfl rfl (op_len rfl tu_34 rfl (.nil 0) (fun n49 => ?_))) | (refine AOps.st 49 rfl rfl rfl (op_len_arr rfl tu_34 rfl ?_))
      refine AOps.st 50 rfl rfl rfl (op_makeSlice el_34 rfl rfl rfl (by omega) rfl ?_); intro b50
      refine AOps.st 8 rfl rfl rfl (op_assign rfl rfl ?_)
      refine AOps.nil ?_
      refine go_code ?_
      refine c_seq ?_
      refine c_seq ?_
      refine ACode.perm (pick_perm (is := [1, 1, 1, 2, 1]) rfl) ?_
      refine c_region ?_
      refine AOps.st 51 rfl rfl rfl (op_move rfl rfl ?_)
      first | (refine AOps.st 52 rfl rfl rfl (op_len rfl tu_34 rfl (.seq _ _) (fun n52 => ?_))) | (refine AOps.st 52 rfl rfl rfl (op_len rfl tu_34 rfl (.own _ _ _) (fun n52 => ?_))) | (refine AOps.st 52 rfl rfl rfl (op_len rfl tu_34 rfl (.nil 0) (fun n52 => ?_))) | (refine AOps.st 52 rfl rfl rfl (op_len_arr rfl tu_34 rfl ?_))
      refine AOps.st 53 rfl rfl rfl (op_move rfl rfl ?_)
      refine AOps.nil ?_
      refine go_code ?_
      refine c_block ?_
      apply c_loopk [1, 2, 3, 9, 10, 13, 15, 17, 18, 19, 20, 21, 22, 23, 24, 25, 26, 27, 28, 29, 30, 31, 32, 33, 34, 35, 36, 37, 38, 39, 40, 41, 42, 43, 44, 45, 46, 47, 48, 49, 50, 53, 54, 55, 56, 57, 58, 59, 60, 61, 62, 63, 64] (σ := Nat × List Int × Nat × Nat × Nat × Nat) (fun zz => match zz with | (k, W, tw, tcw, tb, tcb) => [(53, .val (.int .i64 k))]) (fun zz => match zz with | (k, W, tw, tcw, tb, tcb) => [.loc b (spc false (.val (.int .i64 sz)) (nowV false) (.val (rowv gw (used H + 1) cw)) (.val (rowv gb (used H + 1) cb)) (.val (rowv tw (used (H.take k) + 1) tcw)) (.val (rowv tb (used (H.take k) + 1) tcb))), .row 42 1 (rowv gw (used H + 1) cw) (W.map iv), .row 4 1 (rowv gb (used H + 1) cb) ((hb H).map bv), .row 42 1 (rowv tw (used (H.take k) + 1) tcw) ((hw (H.take k)).map iv), .row 4 1 (rowv tb (used (H.take k) + 1) tcb) ((hb (H.take k)).map bv), .loc b50 ((R.map iv).take k ++ List.replicate (H.length - k) (iv 0)).flatten, .loc b6 [.ptr b 1, .ptr b 3]]) (fun zz => match zz with | (k, W, tw, tcw, tb, tcb) => k ≤ H.length ∧ W.length = used H + 1 ∧ ∀ j, adr H k ≤ j → W[j]? = (hw H)[j]?) (fun zz => match zz with | (k, W, tw, tcw, tb, tcb) => H.length - k) ((0, hw H, g1, 1, g2, 1))
      · repeat' (first | exact Drops.nil | apply Drops.keep rfl | apply Drops.skip rfl)
      · exact ⟨Nat.zero_le _, hw_len H, fun _ _ => rfl⟩
      · exact (by repeat' (first | exact SLe.nil _ | refine SLe.cons rfl ?_ ?_ | exact Le.refl _ | exact Le.own _ _ _ | exact Le.nil _))
      · exact (MLe.of_eq (by simp [hlR, used_nil, hw, hb, hwT, hbT, spc, setL, AV.cells, iv, bv]))
      rintro ⟨k, W, tw, tcw, tb, tcb⟩ hI
      try dsimp only [List.cons_append, List.nil_append] at hI ⊢
      obtain ⟨hk, hWl, hWj⟩ := hI
      refine c_seq ?_
      refine c_region ?_
      refine AOps.st 54 rfl rfl rfl (op_lss rfl rfl rfl ?_); intro c54 h54
      refine AOps.nil ?_
      refine go_code ?_
      refine c_seq ?_
      rcases bool_split h54 with ⟨rfl, g54⟩ | ⟨rfl, g54⟩
      · refine c_cond_f rfl ?_
        refine c_exit ?_
        refine x_code ?_
        refine x_lp ?_
        refine x_here ?_
        refine go_code ?_
        refine c_seq ?_
        refine c_seq ?_
        obtain rfl : k = H.length := by omega
        have ht : (R.map iv).take H.length = R.map iv := by rw [← hlR]; exact List.take_length
        simp only [ht, List.take_length, Nat.sub_self, List.replicate_zero, List.append_nil]
        clear hWj hWl
        refine c_region ?_
        refine AOps.st 11 rfl rfl rfl (op_assign rfl rfl ?_)
        refine AOps.nil ?_
        refine go_code ?_
        refine c_block ?_
        apply c_loopkm [1, 2, 3, 9, 10, 11, 12, 13, 14, 15, 16, 17, 18, 19, 20, 21, 22, 23, 24, 25, 26, 27, 28, 29, 30, 31, 32, 33, 34, 35, 36, 37, 38, 39, 40, 41, 42, 43, 44, 45, 46, 47, 48, 49, 50, 51, 52, 53, 54, 55, 56, 57, 58, 59, 60, 61, 62, 63, 64, 65, 66, 67, 68, 69, 70, 71, 72, 73, 74, 75, 76, 77, 78, 79, 80, 81, 82, 83, 84, 85, 86, 87, 88, 89, 90, 91, 92, 93, 94, 95, 96, 97, 98, 99, 100, 101, 102, 103, 104, 105, 106, 107, 108, 109, 110, 111, 112, 113, 114, 115, 116, 117, 118, 119, 120] (σ := Nat) (fun zz => match zz with | k => [(11, .val (.int .i64 (adr H k)))]) (fun zz => match zz with | k => k ≤ H.length) (fun zz => match zz with | k => H.length - k) (0)
        · repeat' (first | exact Drops.nil | apply Drops.keep rfl | apply Drops.skip rfl)
        · exact Nat.zero_le _
        · exact (by repeat' (first | exact SLe.nil _ | refine SLe.cons rfl ?_ ?_ | exact Le.refl _ | exact Le.own _ _ _ | exact Le.nil _))
        rintro k hI
        try dsimp only [List.cons_append, List.nil_append] at hI ⊢
        refine c_seq ?_
        refine c_seq ?_
        refine c_region ?_
        refine AOps.st 65 rfl rfl rfl (op_move rfl rfl ?_)
        first | (refine AOps.st 66 rfl rfl rfl (op_fieldAddr_m rfl tf_90_1 rfl ?_)) | (refine AOps.st 66 rfl rfl rfl (op_fieldAddr_c rfl tf_90_1 rfl rfl ?_))
        first | (refine AOps.st 67 rfl rfl rfl (op_load_m1 (i := 0) rfl ta_87 rfl rfl rfl ?_)) | (refine AOps.st 67 rfl rfl rfl (op_load_m1 (i := 1) rfl ta_87 rfl rfl rfl ?_)) | (refine AOps.st 67 rfl rfl rfl (op_load_m1 (i := 2) rfl ta_87 rfl rfl rfl ?_)) | (refine AOps.st 67 rfl rfl rfl (op_load_m1 (i := 3) rfl ta_87 rfl rfl rfl ?_)) | (refine AOps.st 67 rfl rfl rfl (op_load_m1 (i := 4) rfl ta_87 rfl rfl rfl ?_)) | (refine AOps.st 67 rfl rfl rfl (op_load_m1 (i := 5) rfl ta_87 rfl rfl rfl ?_)) | (refine AOps.st 67 rfl rfl rfl (op_load_m1 (i := 6) rfl ta_87 rfl rfl rfl ?_)) | (refine AOps.st 67 rfl rfl rfl (op_load_m1 (i := 7) rfl ta_87 rfl rfl rfl ?_)) | (refine AOps.st 67 rfl rfl rfl (op_load_m1 (i := 8) rfl ta_87 rfl rfl rfl ?_)) | (refine AOps.st 67 rfl rfl rfl (op_load_m1 (i := 9) rfl ta_87 rfl rfl rfl ?_)) | (refine AOps.st 67 rfl rfl rfl (op_load_c1 rfl ta_87 rfl rfl ?_))
        first | (refine AOps.st 68 rfl rfl rfl (op_nilCheck_m rfl rfl ?_)) | (refine AOps.st 68 rfl rfl rfl (op_nilCheck_c rfl rfl ?_)) | (refine AOps.st 68 rfl rfl rfl (op_nilCheck_f rfl rfl ?_))
        first | (refine AOps.st 69 rfl rfl rfl (op_fieldAddr_m rfl tf_77_0 rfl ?_)) | (refine AOps.st 69 rfl rfl rfl (op_fieldAddr_c rfl tf_77_0 rfl rfl ?_))
        first | (refine AOps.st 70 rfl rfl rfl (op_load_m1 (i := 0) rfl ta_34 rfl rfl rfl ?_)) | (refine AOps.st 70 rfl rfl rfl (op_load_m1 (i := 1) rfl ta_34 rfl rfl rfl ?_)) | (refine AOps.st 70 rfl rfl rfl (op_load_m1 (i := 2) rfl ta_34 rfl rfl rfl ?_)) | (refine AOps.st 70 rfl rfl rfl (op_load_m1 (i := 3) rfl ta_34 rfl rfl rfl ?_)) | (refine AOps.st 70 rfl rfl rfl (op_load_m1 (i := 4) rfl ta_34 rfl rfl rfl ?_)) | (refine AOps.st 70 rfl rfl rfl (op_load_m1 (i := 5) rfl ta_34 rfl rfl rfl ?_)) | (refine AOps.st 70 rfl rfl rfl (op_load_m1 (i := 6) rfl ta_34 rfl rfl rfl ?_)) | (refine AOps.st 70 rfl rfl rfl (op_load_m1 (i := 7) rfl ta_34 rfl rfl rfl ?_)) | (refine AOps.st 70 rfl rfl rfl (op_load_m1 (i := 8) rfl ta_34 rfl rfl rfl ?_)) | (refine AOps.st 70 rfl rfl rfl (op_load_m1 (i := 9) rfl ta_34 rfl rfl rfl ?_)) | (refine AOps.st 70 rfl rfl rfl (op_load_c1 rfl ta_34 rfl rfl ?_))
        refine AOps.st 71 rfl rfl rfl (op_len_val rfl tu_34 rfl ?_)
        refine AOps.st 72 rfl rfl rfl (op_lss rfl rfl rfl ?_); intro c72 h72
        refine AOps.nil ?_
        refine go_code ?_
        rcases bool_split h72 with ⟨rfl, g72⟩ | ⟨rfl, g72⟩
        · refine c_cond_f rfl ?_
          refine c_exit ?_
          refine x_code ?_
          refine x_lp ?_
          refine x_here ?_
          refine go_code ?_
          refine c_seq ?_
          refine c_drawnE [0, 1, 2, 3, 4, 6, 7, 5, 8, 9] [5, 9] [[], [], [1], [1, 2], [1, 2, 3], [], [0], [0, 6], [0, 1, 2, 3, 4, 5, 6, 7], [0, 1, 2, 3, 4, 5, 6, 7, 8]] tmix rfl ?_
          refine EOps.d 121 (none) (i := 0) rfl rfl rfl rfl rfl (op_move rfl rfl ⟨rfl, rfl⟩) ?_
          refine EOps.d 122 (none) (i := 1) rfl rfl rfl rfl rfl (op_move rfl rfl ⟨rfl, rfl⟩) ?_
          first | (refine EOps.d 123 (none) (i := 2) rfl rfl rfl rfl rfl (op_nilCheck_m rfl rfl ⟨rfl, rfl⟩) ?_) | (refine EOps.d 123 (none) (i := 2) rfl rfl rfl rfl rfl (op_nilCheck_c rfl rfl ⟨rfl, rfl⟩) ?_) | (refine EOps.d 123 (none) (i := 2) rfl rfl rfl rfl rfl (op_nilCheck_f rfl rfl ⟨rfl, rfl⟩) ?_)
          first | (refine EOps.d 124 (none) (i := 3) rfl rfl rfl rfl rfl (op_fieldAddr_m rfl tf_81_2 rfl ⟨rfl, rfl⟩) ?_) | (refine EOps.d 124 (none) (i := 3) rfl rfl rfl rfl rfl (op_fieldAddr_c rfl tf_81_2 rfl rfl ⟨rfl, rfl⟩) ?_)
          first | (refine EOps.d 125 (some 0) (i := 4) rfl rfl rfl rfl rfl (op_load_m1 (i := 0) rfl ta_3 rfl rfl rfl ⟨rfl, rfl⟩) ?_) | (refine EOps.d 125 (some 1) (i := 4) rfl rfl rfl rfl rfl (op_load_m1 (i := 0) rfl ta_3 rfl rfl rfl ⟨rfl, rfl⟩) ?_) | (refine EOps.d 125 (some 2) (i := 4) rfl rfl rfl rfl rfl (op_load_m1 (i := 0) rfl ta_3 rfl rfl rfl ⟨rfl, rfl⟩) ?_) | (refine EOps.d 125 (some 3) (i := 4) rfl rfl rfl rfl rfl (op_load_m1 (i := 0) rfl ta_3 rfl rfl rfl ⟨rfl, rfl⟩) ?_) | (refine EOps.d 125 (some 4) (i := 4) rfl rfl rfl rfl rfl (op_load_m1 (i := 0) rfl ta_3 rfl rfl rfl ⟨rfl, rfl⟩) ?_) | (refine EOps.d 125 (some 5) (i := 4) rfl rfl rfl rfl rfl (op_load_m1 (i := 0) rfl ta_3 rfl rfl rfl ⟨rfl, rfl⟩) ?_) | (refine EOps.d 125 (some 6) (i := 4) rfl rfl rfl rfl rfl (op_load_m1 (i := 0) rfl ta_3 rfl rfl rfl ⟨rfl, rfl⟩) ?_) | (refine EOps.d 125 (some 7) (i := 4) rfl rfl rfl rfl rfl (op_load_m1 (i := 0) rfl ta_3 rfl rfl rfl ⟨rfl, rfl⟩) ?_) | (refine EOps.d 125 (some 8) (i := 4) rfl rfl rfl rfl rfl (op_load_m1 (i := 0) rfl ta_3 rfl rfl rfl ⟨rfl, rfl⟩) ?_) | (refine EOps.d 125 (some 9) (i := 4) rfl rfl rfl rfl rfl (op_load_m1 (i := 0) rfl ta_3 rfl rfl rfl ⟨rfl, rfl⟩) ?_) | (refine EOps.d 125 (none) (i := 4) rfl rfl rfl rfl rfl (op_load_c1 rfl ta_3 rfl rfl ⟨rfl, rfl⟩) ?_)
          first | (refine EOps.d 127 (none) (i := 6) rfl rfl rfl rfl rfl (op_nilCheck_m rfl rfl ⟨rfl, rfl⟩) ?_) | (refine EOps.d 127 (none) (i := 6) rfl rfl rfl rfl rfl (op_nilCheck_c rfl rfl ⟨rfl, rfl⟩) ?_) | (refine EOps.d 127 (none) (i := 6) rfl rfl rfl rfl rfl (op_nilCheck_f rfl rfl ⟨rfl, rfl⟩) ?_)
          first | (refine EOps.d 128 (none) (i := 7) rfl rfl rfl rfl rfl (op_fieldAddr_m rfl tf_81_1 rfl ⟨rfl, rfl⟩) ?_) | (refine EOps.d 128 (none) (i := 7) rfl rfl rfl rfl rfl (op_fieldAddr_c rfl tf_81_1 rfl rfl ⟨rfl, rfl⟩) ?_)
          refine EOps.nws (i := 5) rfl rfl rfl (op_callat [] (xs := []) rfl rfl rfl (empty_c) (by first | exact Les.refl _ | (repeat' (first | exact Les.refl _ | refine Les.cons ?_ ?_ | exact Le.refl _ | exact Le.own _ _ _ | exact Le.nil _ | refine Le.agg ?_))) ?_)
          rintro v1 M1 ⟨g3, g4, rfl, rfl⟩
          first | (refine EOps.d 129 (none) (i := 8) rfl rfl rfl rfl rfl (op_index_arrm (k := 0) rfl tu_79 ts_77 rfl rfl rfl (by decide) ⟨rfl, rfl⟩) ?_) | (refine EOps.d 129 (none) (i := 8) rfl rfl rfl rfl rfl (op_index_arrm (k := 1) rfl tu_79 ts_77 rfl rfl rfl (by decide) ⟨rfl, rfl⟩) ?_)
          first | (refine EOps.w 0 (i := 9) rfl rfl rfl rfl rfl (op_store (i := 0) rfl ts_77 rfl rfl rfl rfl rfl (Nat.le_of_ble_eq_true rfl) rfl ⟨_, rfl, ?_⟩)) | (refine EOps.w 1 (i := 9) rfl rfl rfl rfl rfl (op_store (i := 0) rfl ts_77 rfl rfl rfl rfl rfl (Nat.le_of_ble_eq_true rfl) rfl ⟨_, rfl, ?_⟩)) | (refine EOps.w 2 (i := 9) rfl rfl rfl rfl rfl (op_store (i := 0) rfl ts_77 rfl rfl rfl rfl rfl (Nat.le_of_ble_eq_true rfl) rfl ⟨_, rfl, ?_⟩)) | (refine EOps.w 3 (i := 9) rfl rfl rfl rfl rfl (op_store (i := 0) rfl ts_77 rfl rfl rfl rfl rfl (Nat.le_of_ble_eq_true rfl) rfl ⟨_, rfl, ?_⟩)) | (refine EOps.w 4 (i := 9) rfl rfl rfl rfl rfl (op_store (i := 0) rfl ts_77 rfl rfl rfl rfl rfl (Nat.le_of_ble_eq_true rfl) rfl ⟨_, rfl, ?_⟩)) | (refine EOps.w 5 (i := 9) rfl rfl rfl rfl rfl (op_store (i := 0) rfl ts_77 rfl rfl rfl rfl rfl (Nat.le_of_ble_eq_true rfl) rfl ⟨_, rfl, ?_⟩)) | (refine EOps.w 6 (i := 9) rfl rfl rfl rfl rfl (op_store (i := 0) rfl ts_77 rfl rfl rfl rfl rfl (Nat.le_of_ble_eq_true rfl) rfl ⟨_, rfl, ?_⟩)) | (refine EOps.w 7 (i := 9) rfl rfl rfl rfl rfl (op_store (i := 0) rfl ts_77 rfl rfl rfl rfl rfl (Nat.le_of_ble_eq_true rfl) rfl ⟨_, rfl, ?_⟩)) | (refine EOps.w 8 (i := 9) rfl rfl rfl rfl rfl (op_store (i := 0) rfl ts_77 rfl rfl rfl rfl rfl (Nat.le_of_ble_eq_true rfl) rfl ⟨_, rfl, ?_⟩)) | (refine EOps.w 9 (i := 9) rfl rfl rfl rfl rfl (op_store (i := 0) rfl ts_77 rfl rfl rfl rfl rfl (Nat.le_of_ble_eq_true rfl) rfl ⟨_, rfl, ?_⟩))
          show AGo _ _ _ _ _ _ _
          refine go_code ?_
          refine c_seq ?_
          refine c_region ?_
          refine AOps.st 130 rfl rfl rfl (op_move rfl rfl ?_)
          refine AOps.st 131 rfl rfl rfl (op_move rfl rfl ?_)
          first | (refine AOps.st 132 rfl rfl rfl (op_nilCheck_m rfl rfl ?_)) | (refine AOps.st 132 rfl rfl rfl (op_nilCheck_c rfl rfl ?_)) | (refine AOps.st 132 rfl rfl rfl (op_nilCheck_f rfl rfl ?_))
          first | (refine AOps.st 133 rfl rfl rfl (op_fieldAddr_m rfl tf_81_2 rfl ?_)) | (refine AOps.st 133 rfl rfl rfl (op_fieldAddr_c rfl tf_81_2 rfl rfl ?_))
          first | (refine AOps.st0 rfl rfl (op_store (i := 0) rfl ts_3 rfl rfl rfl rfl rfl (Nat.le_of_ble_eq_true rfl) rfl ?_)) | (refine AOps.st0 rfl rfl (op_store (i := 1) rfl ts_3 rfl rfl rfl rfl rfl (Nat.le_of_ble_eq_true rfl) rfl ?_)) | (refine AOps.st0 rfl rfl (op_store (i := 2) rfl ts_3 rfl rfl rfl rfl rfl (Nat.le_of_ble_eq_true rfl) rfl ?_)) | (refine AOps.st0 rfl rfl (op_store (i := 3) rfl ts_3 rfl rfl rfl rfl rfl (Nat.le_of_ble_eq_true rfl) rfl ?_)) | (refine AOps.st0 rfl rfl (op_store (i := 4) rfl ts_3 rfl rfl rfl rfl rfl (Nat.le_of_ble_eq_true rfl) rfl ?_)) | (refine AOps.st0 rfl rfl (op_store (i := 5) rfl ts_3 rfl rfl rfl rfl rfl (Nat.le_of_ble_eq_true rfl) rfl ?_)) | (refine AOps.st0 rfl rfl (op_store (i := 6) rfl ts_3 rfl rfl rfl rfl rfl (Nat.le_of_ble_eq_true rfl) rfl ?_)) | (refine AOps.st0 rfl rfl (op_store (i := 7) rfl ts_3 rfl rfl rfl rfl rfl (Nat.le_of_ble_eq_true rfl) rfl ?_)) | (refine AOps.st0 rfl rfl (op_store (i := 8) rfl ts_3 rfl rfl rfl rfl rfl (Nat.le_of_ble_eq_true rfl) rfl ?_)) | (refine AOps.st0 rfl rfl (op_store (i := 9) rfl ts_3 rfl rfl rfl rfl rfl (Nat.le_of_ble_eq_true rfl) rfl ?_))
          refine AOps.nil ?_
          refine go_code ?_
          refine c_seq ?_
          refine c_freeze (i := 5) (al' := [(8, .seq 1 (R.map iv))]) rfl rfl (fun e he => by obtain ⟨x, _, rfl⟩ := List.mem_map.1 he; rfl) rfl (by omega) (Frz.arr rfl Frz.nil) ?_
          refine c_region ?_
          refine AOps.st 134 rfl rfl rfl (op_move rfl rfl ?_)
          refine AOps.st 4 rfl rfl rfl (op_assign rfl rfl ?_)
          refine AOps.nil ?_
          refine go_code ?_
          refine c_ret ?_
          exact out_tmp (M' := [_, _, _]) rfl rfl (Le.refl _) (.cons _ (.drop _ (.drop _ (.cons _ (.cons _ (MLe.none _)))))) ⟨rfl, true, tw, tcw, tb, tcb, _, _, rfl⟩
        · refine c_cond_t rfl ?_
          refine c_skip ?_
          refine go_code ?_
          refine c_block ?_
          refine c_seq ?_
          obtain ⟨o, ho⟩ := getk (l := H) (i := k) (by
            rcases Nat.lt_or_ge k H.length with q | q
            · exact q
            · exfalso
              have : adr H k = used H + 1 := by rw [adr, List.take_of_length_le q]
              omega)
          have hoH := List.mem_of_getElem? ho
          have hnx := adr_next ho
          have hfit := adr_fit ho
          obtain ⟨e1, e2, e3, e4⟩ := HO.open_ (hH o hoH)
          have hO := Open_p o.head (headW_lo _ _ _) (headW_hi _ _ _)
          rw [e1, e2, e3, e4, hT o hoH] at hO
          have hx2 : ((hw H).map iv)[adr H k]? = some [.val (.int .u64 o.head)] := by rw [List.getElem?_map, (obj_cells ho (fun _ _ => rfl)).1]; rfl
          have hlW : ((hw H).map iv).length = used H + 1 := by simpa using hw_len H
          refine c_region ?_
          first | (refine AOps.st 74 rfl rfl rfl (op_fieldAddr_m rfl tf_90_1 rfl ?_)) | (refine AOps.st 74 rfl rfl rfl (op_fieldAddr_c rfl tf_90_1 rfl rfl ?_))
          first | (refine AOps.st 75 rfl rfl rfl (op_load_m1 (i := 0) rfl ta_87 rfl rfl rfl ?_)) | (refine AOps.st 75 rfl rfl rfl (op_load_m1 (i := 1) rfl ta_87 rfl rfl rfl ?_)) | (refine AOps.st 75 rfl rfl rfl (op_load_m1 (i := 2) rfl ta_87 rfl rfl rfl ?_)) | (refine AOps.st 75 rfl rfl rfl (op_load_m1 (i := 3) rfl ta_87 rfl rfl rfl ?_)) | (refine AOps.st 75 rfl rfl rfl (op_load_m1 (i := 4) rfl ta_87 rfl rfl rfl ?_)) | (refine AOps.st 75 rfl rfl rfl (op_load_m1 (i := 5) rfl ta_87 rfl rfl rfl ?_)) | (refine AOps.st 75 rfl rfl rfl (op_load_m1 (i := 6) rfl ta_87 rfl rfl rfl ?_)) | (refine AOps.st 75 rfl rfl rfl (op_load_m1 (i := 7) rfl ta_87 rfl rfl rfl ?_)) | (refine AOps.st 75 rfl rfl rfl (op_load_m1 (i := 8) rfl ta_87 rfl rfl rfl ?_)) | (refine AOps.st 75 rfl rfl rfl (op_load_m1 (i := 9) rfl ta_87 rfl rfl rfl ?_)) | (refine AOps.st 75 rfl rfl rfl (op_load_c1 rfl ta_87 rfl rfl ?_))
          first | (refine AOps.st 76 rfl rfl rfl (op_nilCheck_m rfl rfl ?_)) | (refine AOps.st 76 rfl rfl rfl (op_nilCheck_c rfl rfl ?_)) | (refine AOps.st 76 rfl rfl rfl (op_nilCheck_f rfl rfl ?_))
          first | (refine AOps.st 77 rfl rfl rfl (op_fieldAddr_m rfl tf_77_0 rfl ?_)) | (refine AOps.st 77 rfl rfl rfl (op_fieldAddr_c rfl tf_77_0 rfl rfl ?_))
          first | (refine AOps.st 78 rfl rfl rfl (op_load_m1 (i := 0) rfl ta_34 rfl rfl rfl ?_)) | (refine AOps.st 78 rfl rfl rfl (op_load_m1 (i := 1) rfl ta_34 rfl rfl rfl ?_)) | (refine AOps.st 78 rfl rfl rfl (op_load_m1 (i := 2) rfl ta_34 rfl rfl rfl ?_)) | (refine AOps.st 78 rfl rfl rfl (op_load_m1 (i := 3) rfl ta_34 rfl rfl rfl ?_)) | (refine AOps.st 78 rfl rfl rfl (op_load_m1 (i := 4) rfl ta_34 rfl rfl rfl ?_)) | (refine AOps.st 78 rfl rfl rfl (op_load_m1 (i := 5) rfl ta_34 rfl rfl rfl ?_)) | (refine AOps.st 78 rfl rfl rfl (op_load_m1 (i := 6) rfl ta_34 rfl rfl rfl ?_)) | (refine AOps.st 78 rfl rfl rfl (op_load_m1 (i := 7) rfl ta_34 rfl rfl rfl ?_)) | (refine AOps.st 78 rfl rfl rfl (op_load_m1 (i := 8) rfl ta_34 rfl rfl rfl ?_)) | (refine AOps.st 78 rfl rfl rfl (op_load_m1 (i := 9) rfl ta_34 rfl rfl rfl ?_)) | (refine AOps.st 78 rfl rfl rfl (op_load_c1 rfl ta_34 rfl rfl ?_))
          refine AOps.st 79 rfl rfl rfl (op_move rfl rfl ?_)
          refine AOps.st 80 rfl rfl rfl (op_index_row (i := 3) (k := adr H k) rfl te_34 rfl rfl rfl (by first | rfl | omega) (by omega) ?_)
          refine AOps.st 81 rfl rfl rfl (op_load_row1 (i := 3) (k := adr H k) (f := 0) rfl ta_42 rfl rfl rfl (hx2) rfl ?_)
          refine AOps.st 82 rfl rfl rfl (op_callp (xs := [.tmp 81]) rfl rfl (hO) (by first | exact Les.refl _ | (repeat' (first | exact Les.refl _ | refine Les.cons ?_ ?_ | exact Le.refl _ | exact Le.own _ _ _ | exact Le.nil _ | refine Le.agg ?_))) ?_)
          refine AOps.st 73 rfl rfl rfl (op_move rfl rfl ?_)
          refine AOps.st 83 rfl rfl rfl (op_extract rfl rfl rfl ?_)
          refine AOps.st 84 rfl rfl rfl (op_extract rfl rfl rfl ?_)
          refine AOps.st 85 rfl rfl rfl (op_extract rfl rfl rfl ?_)
          refine AOps.st 86 rfl rfl rfl (op_extract rfl rfl rfl ?_)
          refine AOps.st 12 rfl rfl rfl (op_assign rfl rfl ?_)
          refine AOps.st 13 rfl rfl rfl (op_assign rfl rfl ?_)
          refine AOps.st 14 rfl rfl rfl (op_assign rfl rfl ?_)
          refine AOps.st 15 rfl rfl rfl (op_assign rfl rfl ?_)
          refine AOps.nil ?_
          refine go_code ?_
          refine c_seq ?_
          refine c_seq ?_
          refine c_region ?_
          refine AOps.st 87 rfl rfl rfl (op_move rfl rfl ?_)
          first | (refine AOps.st 88 rfl rfl rfl (op_add rfl rfl rfl (IntWalk.i64_in _ (by omega)) ?_)) | (refine AOps.st 88 rfl rfl rfl (op_add rfl rfl rfl rfl ?_))
          refine AOps.st 16 rfl rfl rfl (op_assign rfl rfl ?_)
          refine AOps.nil ?_
          refine go_code ?_
          refine c_block ?_
          apply c_loopkm [1, 2, 3, 9, 10, 13, 15, 16, 17, 18, 19, 20, 21, 22, 23, 24, 25, 26, 27, 28, 29, 30, 31, 32, 33, 34, 35, 36, 37, 38, 39, 40, 41, 42, 43, 44, 45, 46, 47, 48, 49, 50, 51, 52, 53, 54, 55, 56, 57, 58, 59, 60, 61, 62, 63, 64, 89, 90, 91, 92, 93, 94, 95, 96, 97, 98, 99, 100, 101, 102, 103, 104, 105, 106, 107, 108, 109, 110, 111, 112, 113, 114, 115, 116] (σ := Nat) (fun zz => match zz with | z => [(16, .val (.int .i64 (adr H k + 1)))]) (fun zz => match zz with | z => True) (fun zz => match zz with | z => z) (0)
          · repeat' (first | exact Drops.nil | apply Drops.keep rfl | apply Drops.skip rfl)
          · exact trivial
          · exact (by repeat' (first | exact SLe.nil _ | refine SLe.cons rfl ?_ ?_ | exact Le.refl _ | exact Le.own _ _ _ | exact Le.nil _))
          rintro z hI
          try dsimp only [List.cons_append, List.nil_append] at hI ⊢
          refine c_seq ?_
          refine c_seq ?_
          refine c_bool 97 (False) ?_ _ _ rfl ?_
          · skip
            refine AOps.st 89 rfl rfl rfl (op_move rfl rfl ?_)
            refine AOps.st 90 rfl rfl rfl (op_neq rfl rfl rfl ?_); intro c90 h90
            refine AOps.st 91 rfl rfl rfl (op_move rfl rfl ?_)
            rcases bool_split h90 with ⟨rfl, g90⟩ | ⟨rfl, g90⟩
            · skip
              refine AOps.gf 92 rfl rfl rfl rfl rfl ?_
              refine AOps.gf 93 rfl rfl rfl rfl rfl ?_
              refine AOps.gf 94 rfl rfl rfl rfl rfl ?_
              refine AOps.gf 95 rfl rfl rfl rfl rfl ?_
              refine AOps.gf 96 rfl rfl rfl rfl rfl ?_
              refine AOps.st 97 rfl rfl rfl (op_pick rfl rfl rfl ?_)
              refine AOps.nil ?_
              refine BoolQ.mk rfl ?_ (by repeat' (first | exact SLe.wo _ _ | exact SLe.refl _ | refine SLe.fresh rfl ?_)) (by first | exact MLe.none _ | exact MLe.refl _ | (repeat' (first | exact MLe.nil | exact MLe.refl _ | refine MLe.cons _ ?_ | refine MLe.drop _ ?_)))
              first | (simp_all; done) | (simp_all; omega)
            · skip
              refine AOps.gt 92 rfl rfl rfl rfl rfl (op_move rfl rfl ?_)
              refine AOps.gt 93 rfl rfl rfl rfl rfl (op_move rfl rfl ?_)
              refine AOps.gt 94 rfl rfl rfl rfl rfl (op_move rfl rfl ?_)
              first | (refine AOps.gt 95 rfl rfl rfl rfl rfl (op_add rfl rfl rfl (IntWalk.i64_in _ (by omega)) ?_)) | (refine AOps.gt 95 rfl rfl rfl rfl rfl (op_add rfl rfl rfl rfl ?_))
              refine AOps.gt 96 rfl rfl rfl rfl rfl (op_leq rfl rfl rfl ?_); intro c96 h96
              refine AOps.st 97 rfl rfl rfl (op_pick rfl rfl rfl ?_)
              refine AOps.nil ?_
              refine BoolQ.mk rfl ?_ (by repeat' (first | exact SLe.wo _ _ | exact SLe.refl _ | refine SLe.fresh rfl ?_)) (by first | exact MLe.none _ | exact MLe.refl _ | (repeat' (first | exact MLe.nil | exact MLe.refl _ | refine MLe.cons _ ?_ | refine MLe.drop _ ?_)))
              first | (simp_all; done) | (simp_all; omega)
          intro c97 h97
          refine go_code ?_
          rcases bool_split h97 with ⟨rfl, g97⟩ | ⟨rfl, g97⟩
          · refine c_cond_f rfl ?_
            refine c_exit ?_
            refine x_code ?_
            refine x_lp ?_
            refine x_here ?_
            refine go_code ?_
            refine c_region ?_
            refine AOps.st 117 rfl rfl rfl (op_move rfl rfl ?_)
            refine AOps.st 118 rfl rfl rfl (op_move rfl rfl ?_)
            first | (refine AOps.st 119 rfl rfl rfl (op_add rfl rfl rfl (IntWalk.i64_in _ (by omega)) ?_)) | (refine AOps.st 119 rfl rfl rfl (op_add rfl rfl rfl rfl ?_))
            first | (refine AOps.st 120 rfl rfl rfl (op_add rfl rfl rfl (IntWalk.i64_in _ (by omega)) ?_)) | (refine AOps.st 120 rfl rfl rfl (op_add rfl rfl rfl rfl ?_))
            refine AOps.st 11 rfl rfl rfl (op_assign rfl rfl ?_)
            refine AOps.nil ?_
            refine go_blk ?_
            refine go_lp ?_
            exact ⟨k + 1, by have := get_lt ho; omega, by have := get_lt ho; show H.length - (k + 1) < H.length - k; omega, SLe.cons rfl (Le.ieq (by omega)) (by repeat' (first | exact SLe.nil _ | refine SLe.cons rfl ?_ ?_ | exact Le.refl _ | exact Le.own _ _ _ | exact Le.nil _)), (by first | exact MLe.none _ | exact MLe.refl _ | (repeat' (first | exact MLe.nil | exact MLe.refl _ | refine MLe.cons _ ?_ | refine MLe.drop _ ?_)))⟩
          · refine c_cond_t rfl ?_
            refine c_skip ?_
            refine go_code ?_
            refine c_seq ?_
            refine c_block ?_
            exact g97.elim
      · refine c_cond_t rfl ?_
        refine c_skip ?_
        refine go_code ?_
        refine c_seq ?_
        refine c_block ?_
        refine c_seq ?_
        obtain ⟨o, ho⟩ := getk (l := H) (i := k) (by omega)
        have hgk := hg k (by omega)
        have hoH := List.mem_of_getElem? ho
        obtain ⟨a1, a2⟩ := obj_cells ho hWj
        obtain ⟨a', b1, b2, b3, b4, b5, b6⟩ := at_some hu (objOf_adr ho)
        have haa : atV (2 * ((adr H k : Nat) : Int)) = ((adr H k : Nat) : Int) := by rw [b1]; unfold atV at b1; split at b1 <;> omega
        have hfit := adr_fit ho
        have hstep := fill_step (z := iv 0) hlR hgk
        have hwid : ∀ e ∈ (R.map iv).take k ++ List.replicate (H.length - k) (iv 0), e.length = 1 := fun e he => by
          rcases List.mem_append.1 he with he | he
          · obtain ⟨x, _, rfl⟩ := List.mem_map.1 (List.mem_of_mem_take he); rfl
          · rw [(List.mem_replicate.1 he).2]; rfl
        have hmv := move_c false b (.val (.int .i64 sz)) gw cw gb cb tw tcw tb tcb W H (H.take k) o (2 * ((adr H k : Nat) : Int)) (by omega) (by omega) hu (by have := used_take H k; omega) hWl (adr H k) haa b2 (hH o hoH) a1 a2 hfit
        refine c_region ?_
        refine AOps.st 55 rfl rfl rfl (op_move rfl rfl ?_)
        first | (refine AOps.st 56 rfl rfl rfl (op_index rfl te_34 rfl (.seq _ _) rfl rfl (hgk) ?_)) | (refine AOps.st 56 rfl rfl rfl (op_index (i := 0) rfl te_34 rfl (.seq _ _) rfl rfl (by first | rfl | assumption) ?_)) | (refine AOps.st 56 rfl rfl rfl (op_index (i := 1) rfl te_34 rfl (.seq _ _) rfl rfl (by first | rfl | assumption) ?_)) | (refine AOps.st 56 rfl rfl rfl (op_index rfl te_34 rfl (.own _ _ _) rfl rfl (hgk) ?_)) | (refine AOps.st 56 rfl rfl rfl (op_index (i := 0) rfl te_34 rfl (.own _ _ _) rfl rfl (by first | rfl | assumption) ?_)) | (refine AOps.st 56 rfl rfl rfl (op_index (i := 1) rfl te_34 rfl (.own _ _ _) rfl rfl (by first | rfl | assumption) ?_)) | (refine AOps.st 56 rfl rfl rfl (op_index_arr rfl te_34 rfl rfl rfl (by omega) ?_))
        first | (refine AOps.st 57 rfl rfl rfl (op_load_m1 (i := 0) rfl ta_42 rfl rfl rfl ?_)) | (refine AOps.st 57 rfl rfl rfl (op_load_m1 (i := 1) rfl ta_42 rfl rfl rfl ?_)) | (refine AOps.st 57 rfl rfl rfl (op_load_m1 (i := 2) rfl ta_42 rfl rfl rfl ?_)) | (refine AOps.st 57 rfl rfl rfl (op_load_m1 (i := 3) rfl ta_42 rfl rfl rfl ?_)) | (refine AOps.st 57 rfl rfl rfl (op_load_m1 (i := 4) rfl ta_42 rfl rfl rfl ?_)) | (refine AOps.st 57 rfl rfl rfl (op_load_m1 (i := 5) rfl ta_42 rfl rfl rfl ?_)) | (refine AOps.st 57 rfl rfl rfl (op_load_m1 (i := 6) rfl ta_42 rfl rfl rfl ?_)) | (refine AOps.st 57 rfl rfl rfl (op_load_m1 (i := 7) rfl ta_42 rfl rfl rfl ?_)) | (refine AOps.st 57 rfl rfl rfl (op_load_m1 (i := 8) rfl ta_42 rfl rfl rfl ?_)) | (refine AOps.st 57 rfl rfl rfl (op_load_m1 (i := 9) rfl ta_42 rfl rfl rfl ?_)) | (refine AOps.st 57 rfl rfl rfl (op_load_c1 rfl ta_42 rfl rfl ?_))
        refine AOps.st 9 rfl rfl rfl (op_assign rfl rfl ?_)
        refine AOps.st 10 rfl rfl rfl (op_assign rfl rfl ?_)
        refine AOps.nil ?_
        refine go_code ?_
        refine c_region ?_
        refine AOps.st 58 rfl rfl rfl (op_move rfl rfl ?_)
        refine AOps.st 59 rfl rfl rfl (op_move rfl rfl ?_)
        refine AOps.st 60 rfl rfl rfl (op_move rfl rfl ?_)
        refine AOps.st 61 rfl rfl rfl (op_move rfl rfl ?_)
        refine AOps.st 62 rfl rfl rfl (op_callvat [0,0,0,0,0] (xs := [.tmp 61])  rfl rfl rfl rfl hmv (by first | exact Les.refl _ | (repeat' (first | exact Les.refl _ | refine Les.cons ?_ ?_ | exact Le.refl _ | exact Le.own _ _ _ | exact Le.nil _ | refine Le.agg ?_))) ?_)
        rintro v1 M1 ⟨rfl, tw2, tcw2, tb2, tcb2, rfl⟩
        first | (refine AOps.st 63 rfl rfl rfl (op_index rfl te_34 rfl (.seq _ _) rfl rfl (by assumption) ?_)) | (refine AOps.st 63 rfl rfl rfl (op_index (i := 0) rfl te_34 rfl (.seq _ _) rfl rfl (by first | rfl | assumption) ?_)) | (refine AOps.st 63 rfl rfl rfl (op_index (i := 1) rfl te_34 rfl (.seq _ _) rfl rfl (by first | rfl | assumption) ?_)) | (refine AOps.st 63 rfl rfl rfl (op_index rfl te_34 rfl (.own _ _ _) rfl rfl (by assumption) ?_)) | (refine AOps.st 63 rfl rfl rfl (op_index (i := 0) rfl te_34 rfl (.own _ _ _) rfl rfl (by first | rfl | assumption) ?_)) | (refine AOps.st 63 rfl rfl rfl (op_index (i := 1) rfl te_34 rfl (.own _ _ _) rfl rfl (by first | rfl | assumption) ?_)) | (refine AOps.st 63 rfl rfl rfl (op_index_arr rfl te_34 rfl rfl rfl (by omega) ?_))
        refine AOps.st0 rfl rfl (op_store_row (k := 5) rfl ts_42 rfl rfl rfl rfl rfl (hwid) ((by simp; omega)) ?_)
        refine AOps.nil ?_
        refine go_blk ?_
        refine go_code ?_
        refine c_region ?_
        first | (refine AOps.st 64 rfl rfl rfl (op_add rfl rfl rfl (IntWalk.i64_in _ (by omega)) ?_)) | (refine AOps.st 64 rfl rfl rfl (op_add rfl rfl rfl rfl ?_))
        refine AOps.st 53 rfl rfl rfl (op_move rfl rfl ?_)
        refine AOps.nil ?_
        refine go_lp ?_
        refine ⟨(k + 1, W.set (adr H k) (2 * ((adr H k : Nat) : Int)), tw2, tcw2, tb2, tcb2), ⟨by omega, by simpa using hWl, fun j hj => ?_⟩, by show H.length - (k + 1) < _; omega, (by repeat' (first | exact SLe.nil _ | refine SLe.cons rfl ?_ ?_ | exact Le.refl _ | exact Le.own _ _ _ | exact Le.nil _)), ?_⟩
        · rw [adr_next ho] at hj
          rw [List.getElem?_set_ne (by omega)]
          exact hWj j (by omega)
        · refine MLe.of_eq ?_
          dsimp only
          rw [take_next ho, ← hstep]
          rfl
    · refine c_cond_t rfl ?_
      refine c_seq ?_
      exact absurd h19 (by simp)
  · dsimp only [spc]
    refine ACall.enter Try.func20 rfl (by kernel_rfl) rfl (Nat.le_of_ble_eq_true rfl) ?_
    refine c_start ?_
    refine c_seq ?_
    refine c_region ?_
    refine AOps.st 4 rfl rfl rfl (op_assign rfl rfl ?_)
    refine AOps.nil ?_
    refine go_code ?_
    refine c_seq ?_
    refine c_seq ?_
    refine c_region ?_
    refine AOps.st 17 rfl rfl rfl (op_move rfl rfl ?_)
    refine AOps.st 18 rfl rfl rfl (op_callk (xs := [.tmp 17]) [0] rfl rfl rfl (is_c b sz _ rfl h) (by first | exact Les.refl _ | (repeat' (first | exact Les.refl _ | refine Les.cons ?_ ?_ | exact Le.refl _ | exact Le.own _ _ _ | exact Le.nil _ | refine Le.agg ?_))) ?_)
    refine AOps.st 19 rfl rfl rfl (op_notc rfl rfl ?_); intro c19 h19
    try replace h19 := nott h19 h18
    refine AOps.nil ?_
    refine go_code ?_
    rcases bool_split h19 with ⟨rfl, g19⟩ | ⟨rfl, g19⟩
    · refine c_cond_f rfl ?_
      refine c_skip ?_
      refine go_code ?_
      refine c_seq ?_
      refine c_region ?_
      refine AOps.st 21 rfl rfl rfl (op_move rfl rfl ?_)
      first | (refine AOps.st 22 rfl rfl rfl (op_nilCheck_m rfl rfl ?_)) | (refine AOps.st 22 rfl rfl rfl (op_nilCheck_c rfl rfl ?_)) | (refine AOps.st 22 rfl rfl rfl (op_nilCheck_f rfl rfl ?_))
      first | (refine AOps.st 23 rfl rfl rfl (op_fieldAddr_m rfl tf_81_2 rfl ?_)) | (refine AOps.st 23 rfl rfl rfl (op_fieldAddr_c rfl tf_81_2 rfl rfl ?_))
      first | (refine AOps.st 24 rfl rfl rfl (op_load_m1 (i := 0) rfl ta_3 rfl rfl rfl ?_)) | (refine AOps.st 24 rfl rfl rfl (op_load_m1 (i := 1) rfl ta_3 rfl rfl rfl ?_)) | (refine AOps.st 24 rfl rfl rfl (op_load_m1 (i := 2) rfl ta_3 rfl rfl rfl ?_)) | (refine AOps.st 24 rfl rfl rfl (op_load_m1 (i := 3) rfl ta_3 rfl rfl rfl ?_)) | (refine AOps.st 24 rfl rfl rfl (op_load_m1 (i := 4) rfl ta_3 rfl rfl rfl ?_)) | (refine AOps.st 24 rfl rfl rfl (op_load_m1 (i := 5) rfl ta_3 rfl rfl rfl ?_)) | (refine AOps.st 24 rfl rfl rfl (op_load_m1 (i := 6) rfl ta_3 rfl rfl rfl ?_)) | (refine AOps.st 24 rfl rfl rfl (op_load_m1 (i := 7) rfl ta_3 rfl rfl rfl ?_)) | (refine AOps.st 24 rfl rfl rfl (op_load_m1 (i := 8) rfl ta_3 rfl rfl rfl ?_)) | (refine AOps.st 24 rfl rfl rfl (op_load_m1 (i := 9) rfl ta_3 rfl rfl rfl ?_)) | (refine AOps.st 24 rfl rfl rfl (op_load_c1 rfl ta_3 rfl rfl ?_))
      first | (refine AOps.st 25 rfl rfl rfl (op_sub rfl rfl rfl (IntWalk.i64_in _ (by omega)) ?_)) | (refine AOps.st 25 rfl rfl rfl (op_sub rfl rfl rfl rfl ?_))
      refine AOps.st 5 rfl rfl rfl (op_assign rfl rfl ?_)
      refine AOps.nil ?_
      refine go_code ?_
      refine c_seq ?_
      refine c_drawnE [0, 1, 3, 4, 2, 5, 6] [2, 6] [[], [], [], [0], [0, 3], [0, 1, 2, 3, 4], [0, 1, 2, 3, 4, 5]] tmix rfl ?_
      refine EOps.d 26 (none) (i := 0) rfl rfl rfl rfl rfl (op_move rfl rfl ⟨rfl, rfl⟩) ?_
      refine EOps.d 27 (none) (i := 1) rfl rfl rfl rfl rfl (op_move rfl rfl ⟨rfl, rfl⟩) ?_
      first | (refine EOps.d 29 (none) (i := 3) rfl rfl rfl rfl rfl (op_nilCheck_m rfl rfl ⟨rfl, rfl⟩) ?_) | (refine EOps.d 29 (none) (i := 3) rfl rfl rfl rfl rfl (op_nilCheck_c rfl rfl ⟨rfl, rfl⟩) ?_) | (refine EOps.d 29 (none) (i := 3) rfl rfl rfl rfl rfl (op_nilCheck_f rfl rfl ⟨rfl, rfl⟩) ?_)
      first | (refine EOps.d 30 (none) (i := 4) rfl rfl rfl rfl rfl (op_fieldAddr_m rfl tf_81_1 rfl ⟨rfl, rfl⟩) ?_) | (refine EOps.d 30 (none) (i := 4) rfl rfl rfl rfl rfl (op_fieldAddr_c rfl tf_81_1 rfl rfl ⟨rfl, rfl⟩) ?_)
      refine EOps.nws (i := 2) rfl rfl rfl (op_callat [] (xs := []) rfl rfl rfl (empty_c) (by first | exact Les.refl _ | (repeat' (first | exact Les.refl _ | refine Les.cons ?_ ?_ | exact Le.refl _ | exact Le.own _ _ _ | exact Le.nil _ | refine Le.agg ?_))) ?_)
      rintro v1 M1 ⟨g1, g2, rfl, rfl⟩
      first | (refine EOps.d 31 (none) (i := 5) rfl rfl rfl rfl rfl (op_index_arrm (k := 0) rfl tu_79 ts_77 rfl rfl rfl (by decide) ⟨rfl, rfl⟩) ?_) | (refine EOps.d 31 (none) (i := 5) rfl rfl rfl rfl rfl (op_index_arrm (k := 1) rfl tu_79 ts_77 rfl rfl rfl (by decide) ⟨rfl, rfl⟩) ?_)
      first | (refine EOps.w 0 (i := 6) rfl rfl rfl rfl rfl (op_store (i := 0) rfl ts_77 rfl rfl rfl rfl rfl (Nat.le_of_ble_eq_true rfl) rfl ⟨_, rfl, ?_⟩)) | (refine EOps.w 1 (i := 6) rfl rfl rfl rfl rfl (op_store (i := 0) rfl ts_77 rfl rfl rfl rfl rfl (Nat.le_of_ble_eq_true rfl) rfl ⟨_, rfl, ?_⟩)) | (refine EOps.w 2 (i := 6) rfl rfl rfl rfl rfl (op_store (i := 0) rfl ts_77 rfl rfl rfl rfl rfl (Nat.le_of_ble_eq_true rfl) rfl ⟨_, rfl, ?_⟩)) | (refine EOps.w 3 (i := 6) rfl rfl rfl rfl rfl (op_store (i := 0) rfl ts_77 rfl rfl rfl rfl rfl (Nat.le_of_ble_eq_true rfl) rfl ⟨_, rfl, ?_⟩)) | (refine EOps.w 4 (i := 6) rfl rfl rfl rfl rfl (op_store (i := 0) rfl ts_77 rfl rfl rfl rfl rfl (Nat.le_of_ble_eq_true rfl) rfl ⟨_, rfl, ?_⟩)) | (refine EOps.w 5 (i := 6) rfl rfl rfl rfl rfl (op_store (i := 0) rfl ts_77 rfl rfl rfl rfl rfl (Nat.le_of_ble_eq_true rfl) rfl ⟨_, rfl, ?_⟩)) | (refine EOps.w 6 (i := 6) rfl rfl rfl rfl rfl (op_store (i := 0) rfl ts_77 rfl rfl rfl rfl rfl (Nat.le_of_ble_eq_true rfl) rfl ⟨_, rfl, ?_⟩)) | (refine EOps.w 7 (i := 6) rfl rfl rfl rfl rfl (op_store (i := 0) rfl ts_77 rfl rfl rfl rfl rfl (Nat.le_of_ble_eq_true rfl) rfl ⟨_, rfl, ?_⟩)) | (refine EOps.w 8 (i := 6) rfl rfl rfl rfl rfl (op_store (i := 0) rfl ts_77 rfl rfl rfl rfl rfl (Nat.le_of_ble_eq_true rfl) rfl ⟨_, rfl, ?_⟩)) | (refine EOps.w 9 (i := 6) rfl rfl rfl rfl rfl (op_store (i := 0) rfl ts_77 rfl rfl rfl rfl rfl (Nat.le_of_ble_eq_true rfl) rfl ⟨_, rfl, ?_⟩))
      show AGo _ _ _ _ _ _ _
      refine go_code ?_
      refine c_seq ?_
      refine c_drawnE [0, 1, 2, 3, 4, 5, 6, 7, 8, 9, 10, 11, 12, 13, 14, 15] [14, 15] [[], [], [1], [1, 2], [1, 2, 3], [0], [0, 5], [0, 1, 2, 3, 4, 5, 6], [], [], [8], [8, 10], [8, 9, 10, 11], [0, 1, 2, 3, 4, 5, 6, 7, 8, 9, 10, 11, 12], [], [0, 1, 2, 3, 4, 5, 6, 7, 8, 9, 10, 11, 12, 13, 14]] tmix rfl ?_
      refine EOps.d 32 (none) (i := 0) rfl rfl rfl rfl rfl (op_move rfl rfl ⟨rfl, rfl⟩) ?_
      refine EOps.d 33 (none) (i := 1) rfl rfl rfl rfl rfl (op_move rfl rfl ⟨rfl, rfl⟩) ?_
      first | (refine EOps.d 34 (none) (i := 2) rfl rfl rfl rfl rfl (op_nilCheck_m rfl rfl ⟨rfl, rfl⟩) ?_) | (refine EOps.d 34 (none) (i := 2) rfl rfl rfl rfl rfl (op_nilCheck_c rfl rfl ⟨rfl, rfl⟩) ?_) | (refine EOps.d 34 (none) (i := 2) rfl rfl rfl rfl rfl (op_nilCheck_f rfl rfl ⟨rfl, rfl⟩) ?_)
      first | (refine EOps.d 35 (none) (i := 3) rfl rfl rfl rfl rfl (op_fieldAddr_m rfl tf_81_2 rfl ⟨rfl, rfl⟩) ?_) | (refine EOps.d 35 (none) (i := 3) rfl rfl rfl rfl rfl (op_fieldAddr_c rfl tf_81_2 rfl rfl ⟨rfl, rfl⟩) ?_)
      first | (refine EOps.d 36 (some 0) (i := 4) rfl rfl rfl rfl rfl (op_load_m1 (i := 0) rfl ta_3 rfl rfl rfl ⟨rfl, rfl⟩) ?_) | (refine EOps.d 36 (some 1) (i := 4) rfl rfl rfl rfl rfl (op_load_m1 (i := 0) rfl ta_3 rfl rfl rfl ⟨rfl, rfl⟩) ?_) | (refine EOps.d 36 (some 2) (i := 4) rfl rfl rfl rfl rfl (op_load_m1 (i := 0) rfl ta_3 rfl rfl rfl ⟨rfl, rfl⟩) ?_) | (refine EOps.d 36 (some 3) (i := 4) rfl rfl rfl rfl rfl (op_load_m1 (i := 0) rfl ta_3 rfl rfl rfl ⟨rfl, rfl⟩) ?_) | (refine EOps.d 36 (some 4) (i := 4) rfl rfl rfl rfl rfl (op_load_m1 (i := 0) rfl ta_3 rfl rfl rfl ⟨rfl, rfl⟩) ?_) | (refine EOps.d 36 (some 5) (i := 4) rfl rfl rfl rfl rfl (op_load_m1 (i := 0) rfl ta_3 rfl rfl rfl ⟨rfl, rfl⟩) ?_) | (refine EOps.d 36 (some 6) (i := 4) rfl rfl rfl rfl rfl (op_load_m1 (i := 0) rfl ta_3 rfl rfl rfl ⟨rfl, rfl⟩) ?_) | (refine EOps.d 36 (some 7) (i := 4) rfl rfl rfl rfl rfl (op_load_m1 (i := 0) rfl ta_3 rfl rfl rfl ⟨rfl, rfl⟩) ?_) | (refine EOps.d 36 (some 8) (i := 4) rfl rfl rfl rfl rfl (op_load_m1 (i := 0) rfl ta_3 rfl rfl rfl ⟨rfl, rfl⟩) ?_) | (refine EOps.d 36 (some 9) (i := 4) rfl rfl rfl rfl rfl (op_load_m1 (i := 0) rfl ta_3 rfl rfl rfl ⟨rfl, rfl⟩) ?_) | (refine EOps.d 36 (none) (i := 4) rfl rfl rfl rfl rfl (op_load_c1 rfl ta_3 rfl rfl ⟨rfl, rfl⟩) ?_)
      first | (refine EOps.d 37 (none) (i := 5) rfl rfl rfl rfl rfl (op_nilCheck_m rfl rfl ⟨rfl, rfl⟩) ?_) | (refine EOps.d 37 (none) (i := 5) rfl rfl rfl rfl rfl (op_nilCheck_c rfl rfl ⟨rfl, rfl⟩) ?_) | (refine EOps.d 37 (none) (i := 5) rfl rfl rfl rfl rfl (op_nilCheck_f rfl rfl ⟨rfl, rfl⟩) ?_)
      first | (refine EOps.d 38 (none) (i := 6) rfl rfl rfl rfl rfl (op_fieldAddr_m rfl tf_81_1 rfl ⟨rfl, rfl⟩) ?_) | (refine EOps.d 38 (none) (i := 6) rfl rfl rfl rfl rfl (op_fieldAddr_c rfl tf_81_1 rfl rfl ⟨rfl, rfl⟩) ?_)
      first | (refine EOps.d 39 (none) (i := 7) rfl rfl rfl rfl rfl (op_index_arrm (k := 0) rfl tu_79 ts_77 rfl rfl rfl (by decide) ⟨rfl, rfl⟩) ?_) | (refine EOps.d 39 (none) (i := 7) rfl rfl rfl rfl rfl (op_index_arrm (k := 1) rfl tu_79 ts_77 rfl rfl rfl (by decide) ⟨rfl, rfl⟩) ?_)
      refine EOps.d 40 (none) (i := 8) rfl rfl rfl rfl rfl (op_move rfl rfl ⟨rfl, rfl⟩) ?_
      refine EOps.d 41 (none) (i := 9) rfl rfl rfl rfl rfl (op_move rfl rfl ⟨rfl, rfl⟩) ?_
      first | (refine EOps.d 42 (none) (i := 10) rfl rfl rfl rfl rfl (op_nilCheck_m rfl rfl ⟨rfl, rfl⟩) ?_) | (refine EOps.d 42 (none) (i := 10) rfl rfl rfl rfl rfl (op_nilCheck_c rfl rfl ⟨rfl, rfl⟩) ?_) | (refine EOps.d 42 (none) (i := 10) rfl rfl rfl rfl rfl (op_nilCheck_f rfl rfl ⟨rfl, rfl⟩) ?_)
      first | (refine EOps.d 43 (none) (i := 11) rfl rfl rfl rfl rfl (op_fieldAddr_m rfl tf_81_1 rfl ⟨rfl, rfl⟩) ?_) | (refine EOps.d 43 (none) (i := 11) rfl rfl rfl rfl rfl (op_fieldAddr_c rfl tf_81_1 rfl rfl ⟨rfl, rfl⟩) ?_)
      first | (refine EOps.d 44 (none) (i := 12) rfl rfl rfl rfl rfl (op_index_arrm (k := 0) rfl tu_79 ts_77 rfl rfl rfl (by decide) ⟨rfl, rfl⟩) ?_) | (refine EOps.d 44 (none) (i := 12) rfl rfl rfl rfl rfl (op_index_arrm (k := 1) rfl tu_79 ts_77 rfl rfl rfl (by decide) ⟨rfl, rfl⟩) ?_)
      refine EOps.d 45 (none) (i := 13) rfl rfl rfl rfl rfl (op_build (ns := [0, 1]) (xs := [.tmp 39, .tmp 44]) rfl tz_90 rfl tfl_90 rfl rfl rfl rfl ⟨rfl, rfl⟩) ?_
      refine EOps.nw (i := 14) rfl rfl rfl (op_alloce (cs' := [_, _]) rfl tz_90 rfl rfl (fun b6 => ⟨_, rfl, ?_⟩))
      first | (refine EOps.w 0 (i := 15) rfl rfl rfl rfl rfl (op_store (cs' := [_, _]) (i := 0) rfl ts_90 rfl rfl rfl rfl rfl (Nat.le_of_ble_eq_true rfl) rfl ⟨_, rfl, ?_⟩)) | (refine EOps.w 1 (i := 15) rfl rfl rfl rfl rfl (op_store (cs' := [_, _]) (i := 0) rfl ts_90 rfl rfl rfl rfl rfl (Nat.le_of_ble_eq_true rfl) rfl ⟨_, rfl, ?_⟩)) | (refine EOps.w 2 (i := 15) rfl rfl rfl rfl rfl (op_store (cs' := [_, _]) (i := 0) rfl ts_90 rfl rfl rfl rfl rfl (Nat.le_of_ble_eq_true rfl) rfl ⟨_, rfl, ?_⟩)) | (refine EOps.w 3 (i := 15) rfl rfl rfl rfl rfl (op_store (cs' := [_, _]) (i := 0) rfl ts_90 rfl rfl rfl rfl rfl (Nat.le_of_ble_eq_true rfl) rfl ⟨_, rfl, ?_⟩)) | (refine EOps.w 4 (i := 15) rfl rfl rfl rfl rfl (op_store (cs' := [_, _]) (i := 0) rfl ts_90 rfl rfl rfl rfl rfl (Nat.le_of_ble_eq_true rfl) rfl ⟨_, rfl, ?_⟩)) | (refine EOps.w 5 (i := 15) rfl rfl rfl rfl rfl (op_store (cs' := [_, _]) (i := 0) rfl ts_90 rfl rfl rfl rfl rfl (Nat.le_of_ble_eq_true rfl) rfl ⟨_, rfl, ?_⟩)) | (refine EOps.w 6 (i := 15) rfl rfl rfl rfl rfl (op_store (cs' := [_, _]) (i := 0) rfl ts_90 rfl rfl rfl rfl rfl (Nat.le_of_ble_eq_true rfl) rfl ⟨_, rfl, ?_⟩)) | (refine EOps.w 7 (i := 15) rfl rfl rfl rfl rfl (op_store (cs' := [_, _]) (i := 0) rfl ts_90 rfl rfl rfl rfl rfl (Nat.le_of_ble_eq_true rfl) rfl ⟨_, rfl, ?_⟩)) | (refine EOps.w 8 (i := 15) rfl rfl rfl rfl rfl (op_store (cs' := [_, _]) (i := 0) rfl ts_90 rfl rfl rfl rfl rfl (Nat.le_of_ble_eq_true rfl) rfl ⟨_, rfl, ?_⟩)) | (refine EOps.w 9 (i := 15) rfl rfl rfl rfl rfl (op_store (cs' := [_, _]) (i := 0) rfl ts_90 rfl rfl rfl rfl rfl (Nat.le_of_ble_eq_true rfl) rfl ⟨_, rfl, ?_⟩))
      show AGo _ _ _ _ _ _ _
      refine go_code ?_
      refine c_seq ?_
      refine c_region ?_
      first | (refine AOps.st 46 rfl rfl rfl (op_load_m (cs' := [_, _]) (i := 0) rfl ta_90 rfl rfl rfl rfl ?_)) | (refine AOps.st 46 rfl rfl rfl (op_load_m (cs' := [_, _]) (i := 1) rfl ta_90 rfl rfl rfl rfl ?_)) | (refine AOps.st 46 rfl rfl rfl (op_load_m (cs' := [_, _]) (i := 2) rfl ta_90 rfl rfl rfl rfl ?_)) | (refine AOps.st 46 rfl rfl rfl (op_load_m (cs' := [_, _]) (i := 3) rfl ta_90 rfl rfl rfl rfl ?_)) | (refine AOps.st 46 rfl rfl rfl (op_load_m (cs' := [_, _]) (i := 4) rfl ta_90 rfl rfl rfl rfl ?_)) | (refine AOps.st 46 rfl rfl rfl (op_load_m (cs' := [_, _]) (i := 5) rfl ta_90 rfl rfl rfl rfl ?_)) | (refine AOps.st 46 rfl rfl rfl (op_load_m (cs' := [_, _]) (i := 6) rfl ta_90 rfl rfl rfl rfl ?_)) | (refine AOps.st 46 rfl rfl rfl (op_load_m (cs' := [_, _]) (i := 7) rfl ta_90 rfl rfl rfl rfl ?_)) | (refine AOps.st 46 rfl rfl rfl (op_load_m (cs' := [_, _]) (i := 8) rfl ta_90 rfl rfl rfl rfl ?_)) | (refine AOps.st 46 rfl rfl rfl (op_load_m (cs' := [_, _]) (i := 9) rfl ta_90 rfl rfl rfl rfl ?_)) | (refine AOps.st 46 rfl rfl rfl (op_load_c (cs' := [_, _]) rfl ta_90 rfl rfl rfl ?_))
      refine AOps.st 47 rfl rfl rfl (op_makeFunc (fs := [.tmp 46]) (cs := []) rfl rfl rfl ?_)
      refine AOps.st 7 rfl rfl rfl (op_assign rfl rfl ?_)
      refine AOps.nil ?_
      refine go_code ?_
      refine c_seq ?_
      refine c_region ?_
      refine AOps.st 48 rfl rfl rfl (op_move rfl rfl ?_)
      first | (refine AOps.st 49 rfl rfl rfl (op_len rfl tu_34 rfl (.seq _ _) (fun n49 => ?_))) | (refine AOps.st 49 rfl rfl rfl (op_len rfl tu_34 rfl (.own _ _ _) (fun n49 => ?_))) | (refine AOps.st 49 rfl rfl rfl (op_len rfl tu_34 rfl (.nil 0) (fun n49 => ?_))) | (refine AOps.st 49 rfl rfl rfl (op_len_arr rfl tu_34 rfl ?_))
      refine AOps.st 50 rfl rfl rfl (op_makeSlice el_34 rfl rfl rfl (by omega) rfl ?_); intro b50
      refine AOps.st 8 rfl rfl rfl (op_assign rfl rfl ?_)
      refine AOps.nil ?_
      refine go_code ?_
      refine c_seq ?_
      refine c_seq ?_
      refine ACode.perm (pick_perm (is := [1, 1, 1, 2, 1]) rfl) ?_
      refine c_region ?_
      refine AOps.st 51 rfl rfl rfl (op_move rfl rfl ?_)
      first | (refine AOps.st 52 rfl rfl rfl (op_len rfl tu_34 rfl (.seq _ _) (fun n52 => ?_))) | (refine AOps.st 52 rfl rfl rfl (op_len rfl tu_34 rfl (.own _ _ _) (fun n52 => ?_))) | (refine AOps.st 52 rfl rfl rfl (op_len rfl tu_34 rfl (.nil 0) (fun n52 => ?_))) | (refine AOps.st 52 rfl rfl rfl (op_len_arr rfl tu_34 rfl ?_))
      refine AOps.st 53 rfl rfl rfl (op_move rfl rfl ?_)
      refine AOps.nil ?_
      refine go_code ?_
      refine c_block ?_
      apply c_loopk [1, 2, 3, 9, 10, 13, 15, 17, 18, 19, 20, 21, 22, 23, 24, 25, 26, 27, 28, 29, 30, 31, 32, 33, 34, 35, 36, 37, 38, 39, 40, 41, 42, 43, 44, 45, 46, 47, 48, 49, 50, 53, 54, 55, 56, 57, 58, 59, 60, 61, 62, 63, 64] (σ := Nat × List Int × Nat × Nat × Nat × Nat) (fun zz => match zz with | (k, W, tw, tcw, tb, tcb) => [(53, .val (.int .i64 k))]) (fun zz => match zz with | (k, W, tw, tcw, tb, tcb) => [.loc b (spc true (.val (.int .i64 sz)) (nowV true) (.val (rowv gw (used H + 1) cw)) (.val (rowv gb (used H + 1) cb)) (.val (rowv tw (used (H.take k) + 1) tcw)) (.val (rowv tb (used (H.take k) + 1) tcb))), .row 42 1 (rowv gw (used H + 1) cw) (W.map iv), .row 4 1 (rowv gb (used H + 1) cb) ((hb H).map bv), .row 42 1 (rowv tw (used (H.take k) + 1) tcw) ((hw (H.take k)).map iv), .row 4 1 (rowv tb (used (H.take k) + 1) tcb) ((hb (H.take k)).map bv), .loc b50 ((R.map iv).take k ++ List.replicate (H.length - k) (iv 0)).flatten, .loc b6 [.ptr b 3, .ptr b 1]]) (fun zz => match zz with | (k, W, tw, tcw, tb, tcb) => k ≤ H.length ∧ W.length = used H + 1 ∧ ∀ j, adr H k ≤ j → W[j]? = (hw H)[j]?) (fun zz => match zz with | (k, W, tw, tcw, tb, tcb) => H.length - k) ((0, hw H, g1, 1, g2, 1))
      · repeat' (first | exact Drops.nil | apply Drops.keep rfl | apply Drops.skip rfl)
      · exact ⟨Nat.zero_le _, hw_len H, fun _ _ => rfl⟩
      · exact (by repeat' (first | exact SLe.nil _ | refine SLe.cons rfl ?_ ?_ | exact Le.refl _ | exact Le.own _ _ _ | exact Le.nil _))
      · exact (MLe.of_eq (by simp [hlR, used_nil, hw, hb, hwT, hbT, spc, setL, AV.cells, iv, bv]))
      rintro ⟨k, W, tw, tcw, tb, tcb⟩ hI
      try dsimp only [List.cons_append, List.nil_append] at hI ⊢
      obtain ⟨hk, hWl, hWj⟩ := hI
      refine c_seq ?_
      refine c_region ?_
      refine AOps.st 54 rfl rfl rfl (op_lss rfl rfl rfl ?_); intro c54 h54
      refine AOps.nil ?_
      refine go_code ?_
      refine c_seq ?_
      rcases bool_split h54 with ⟨rfl, g54⟩ | ⟨rfl, g54⟩
      · refine c_cond_f rfl ?_
        refine c_exit ?_
        refine x_code ?_
        refine x_lp ?_
        refine x_here ?_
        refine go_code ?_
        refine c_seq ?_
        refine c_seq ?_
        obtain rfl : k = H.length := by omega
        have ht : (R.map iv).take H.length = R.map iv := by rw [← hlR]; exact List.take_length
        simp only [ht, List.take_length, Nat.sub_self, List.replicate_zero, List.append_nil]
        clear hWj hWl
        refine c_region ?_
        refine AOps.st 11 rfl rfl rfl (op_assign rfl rfl ?_)
        refine AOps.nil ?_
        refine go_code ?_
        refine c_block ?_
        apply c_loopkm [1, 2, 3, 9, 10, 11, 12, 13, 14, 15, 16, 17, 18, 19, 20, 21, 22, 23, 24, 25, 26, 27, 28, 29, 30, 31, 32, 33, 34, 35, 36, 37, 38, 39, 40, 41, 42, 43, 44, 45, 46, 47, 48, 49, 50, 51, 52, 53, 54, 55, 56, 57, 58, 59, 60, 61, 62, 63, 64, 65, 66, 67, 68, 69, 70, 71, 72, 73, 74, 75, 76, 77, 78, 79, 80, 81, 82, 83, 84, 85, 86, 87, 88, 89, 90, 91, 92, 93, 94, 95, 96, 97, 98, 99, 100, 101, 102, 103, 104, 105, 106, 107, 108, 109, 110, 111, 112, 113, 114, 115, 116, 117, 118, 119, 120] (σ := Nat) (fun zz => match zz with | k => [(11, .val (.int .i64 (adr H k)))]) (fun zz => match zz with | k => k ≤ H.length) (fun zz => match zz with | k => H.length - k) (0)
        · repeat' (first | exact Drops.nil | apply Drops.keep rfl | apply Drops.skip rfl)
        · exact Nat.zero_le _
        · exact (by repeat' (first | exact SLe.nil _ | refine SLe.cons rfl ?_ ?_ | exact Le.refl _ | exact Le.own _ _ _ | exact Le.nil _))
        rintro k hI
        try dsimp only [List.cons_append, List.nil_append] at hI ⊢
        refine c_seq ?_
        refine c_seq ?_
        refine c_region ?_
        refine AOps.st 65 rfl rfl rfl (op_move rfl rfl ?_)
        first | (refine AOps.st 66 rfl rfl rfl (op_fieldAddr_m rfl tf_90_1 rfl ?_)) | (refine AOps.st 66 rfl rfl rfl (op_fieldAddr_c rfl tf_90_1 rfl rfl ?_))
        first | (refine AOps.st 67 rfl rfl rfl (op_load_m1 (i := 0) rfl ta_87 rfl rfl rfl ?_)) | (refine AOps.st 67 rfl rfl rfl (op_load_m1 (i := 1) rfl ta_87 rfl rfl rfl ?_)) | (refine AOps.st 67 rfl rfl rfl (op_load_m1 (i := 2) rfl ta_87 rfl rfl rfl ?_)) | (refine AOps.st 67 rfl rfl rfl (op_load_m1 (i := 3) rfl ta_87 rfl rfl rfl ?_)) | (refine AOps.st 67 rfl rfl rfl (op_load_m1 (i := 4) rfl ta_87 rfl rfl rfl ?_)) | (refine AOps.st 67 rfl rfl rfl (op_load_m1 (i := 5) rfl ta_87 rfl rfl rfl ?_)) | (refine AOps.st 67 rfl rfl rfl (op_load_m1 (i := 6) rfl ta_87 rfl rfl rfl ?_)) | (refine AOps.st 67 rfl rfl rfl (op_load_m1 (i := 7) rfl ta_87 rfl rfl rfl ?_)) | (refine AOps.st 67 rfl rfl rfl (op_load_m1 (i := 8) rfl ta_87 rfl rfl rfl ?_)) | (refine AOps.st 67 rfl rfl rfl (op_load_m1 (i := 9) rfl ta_87 rfl rfl rfl ?_)) | (refine AOps.st 67 rfl rfl rfl (op_load_c1 rfl ta_87 rfl rfl ?_))
        first | (refine AOps.st 68 rfl rfl rfl (op_nilCheck_m rfl rfl ?_)) | (refine AOps.st 68 rfl rfl rfl (op_nilCheck_c rfl rfl ?_)) | (refine AOps.st 68 rfl rfl rfl (op_nilCheck_f rfl rfl ?_))
        first | (refine AOps.st 69 rfl rfl rfl (op_fieldAddr_m rfl tf_77_0 rfl ?_)) | (refine AOps.st 69 rfl rfl rfl (op_fieldAddr_c rfl tf_77_0 rfl rfl ?_))
        first | (refine AOps.st 70 rfl rfl rfl (op_load_m1 (i := 0) rfl ta_34 rfl rfl rfl ?_)) | (refine AOps.st 70 rfl rfl rfl (op_load_m1 (i := 1) rfl ta_34 rfl rfl rfl ?_)) | (refine AOps.st 70 rfl rfl rfl (op_load_m1 (i := 2) rfl ta_34 rfl rfl rfl ?_)) | (refine AOps.st 70 rfl rfl rfl (op_load_m1 (i := 3) rfl ta_34 rfl rfl rfl ?_)) | (refine AOps.st 70 rfl rfl rfl (op_load_m1 (i := 4) rfl ta_34 rfl rfl rfl ?_)) | (refine AOps.st 70 rfl rfl rfl (op_load_m1 (i := 5) rfl ta_34 rfl rfl rfl ?_)) | (refine AOps.st 70 rfl rfl rfl (op_load_m1 (i := 6) rfl ta_34 rfl rfl rfl ?_)) | (refine AOps.st 70 rfl rfl rfl (op_load_m1 (i := 7) rfl ta_34 rfl rfl rfl ?_)) | (refine AOps.st 70 rfl rfl rfl (op_load_m1 (i := 8) rfl ta_34 rfl rfl rfl ?_)) | (refine AOps.st 70 rfl rfl rfl (op_load_m1 (i := 9) rfl ta_34 rfl rfl rfl ?_)) | (refine AOps.st 70 rfl rfl rfl (op_load_c1 rfl ta_34 rfl rfl ?_))
        refine AOps.st 71 rfl rfl rfl (op_len_val rfl tu_34 rfl ?_)
        refine AOps.st 72 rfl rfl rfl (op_lss rfl rfl rfl ?_); intro c72 h72
        refine AOps.nil ?_
        refine go_code ?_
        rcases bool_split h72 with ⟨rfl, g72⟩ | ⟨rfl, g72⟩
        · refine c_cond_f rfl ?_
          refine c_exit ?_
          refine x_code ?_
          refine x_lp ?_
          refine x_here ?_
          refine go_code ?_
          refine c_seq ?_
          refine c_drawnE [0, 1, 2, 3, 4, 6, 7, 5, 8, 9] [5, 9] [[], [], [1], [1, 2], [1, 2, 3], [], [0], [0, 6], [0, 1, 2, 3, 4, 5, 6, 7], [0, 1, 2, 3, 4, 5, 6, 7, 8]] tmix rfl ?_
          refine EOps.d 121 (none) (i := 0) rfl rfl rfl rfl rfl (op_move rfl rfl ⟨rfl, rfl⟩) ?_
          refine EOps.d 122 (none) (i := 1) rfl rfl rfl rfl rfl (op_move rfl rfl ⟨rfl, rfl⟩) ?_
          first | (refine EOps.d 123 (none) (i := 2) rfl rfl rfl rfl rfl (op_nilCheck_m rfl rfl ⟨rfl, rfl⟩) ?_) | (refine EOps.d 123 (none) (i := 2) rfl rfl rfl rfl rfl (op_nilCheck_c rfl rfl ⟨rfl, rfl⟩) ?_) | (refine EOps.d 123 (none) (i := 2) rfl rfl rfl rfl rfl (op_nilCheck_f rfl rfl ⟨rfl, rfl⟩) ?_)
          first | (refine EOps.d 124 (none) (i := 3) rfl rfl rfl rfl rfl (op_fieldAddr_m rfl tf_81_2 rfl ⟨rfl, rfl⟩) ?_) | (refine EOps.d 124 (none) (i := 3) rfl rfl rfl rfl rfl (op_fieldAddr_c rfl tf_81_2 rfl rfl ⟨rfl, rfl⟩) ?_)
          first | (refine EOps.d 125 (some 0) (i := 4) rfl rfl rfl rfl rfl (op_load_m1 (i := 0) rfl ta_3 rfl rfl rfl ⟨rfl, rfl⟩) ?_) | (refine EOps.d 125 (some 1) (i := 4) rfl rfl rfl rfl rfl (op_load_m1 (i := 0) rfl ta_3 rfl rfl rfl ⟨rfl, rfl⟩) ?_) | (refine EOps.d 125 (some 2) (i := 4) rfl rfl rfl rfl rfl (op_load_m1 (i := 0) rfl ta_3 rfl rfl rfl ⟨rfl, rfl⟩) ?_) | (refine EOps.d 125 (some 3) (i := 4) rfl rfl rfl rfl rfl (op_load_m1 (i := 0) rfl ta_3 rfl rfl rfl ⟨rfl, rfl⟩) ?_) | (refine EOps.d 125 (some 4) (i := 4) rfl rfl rfl rfl rfl (op_load_m1 (i := 0) rfl ta_3 rfl rfl rfl ⟨rfl, rfl⟩) ?_) | (refine EOps.d 125 (some 5) (i := 4) rfl rfl rfl rfl rfl (op_load_m1 (i := 0) rfl ta_3 rfl rfl rfl ⟨rfl, rfl⟩) ?_) | (refine EOps.d 125 (some 6) (i := 4) rfl rfl rfl rfl rfl (op_load_m1 (i := 0) rfl ta_3 rfl rfl rfl ⟨rfl, rfl⟩) ?_) | (refine EOps.d 125 (some 7) (i := 4) rfl rfl rfl rfl rfl (op_load_m1 (i := 0) rfl ta_3 rfl rfl rfl ⟨rfl, rfl⟩) ?_) | (refine EOps.d 125 (some 8) (i := 4) rfl rfl rfl rfl rfl (op_load_m1 (i := 0) rfl ta_3 rfl rfl rfl ⟨rfl, rfl⟩) ?_) | (refine EOps.d 125 (some 9) (i := 4) rfl rfl rfl rfl rfl (op_load_m1 (i := 0) rfl ta_3 rfl rfl rfl ⟨rfl, rfl⟩) ?_) | (refine EOps.d 125 (none) (i := 4) rfl rfl rfl rfl rfl (op_load_c1 rfl ta_3 rfl rfl ⟨rfl, rfl⟩) ?_)
          first | (refine EOps.d 127 (none) (i := 6) rfl rfl rfl rfl rfl (op_nilCheck_m rfl rfl ⟨rfl, rfl⟩) ?_) | (refine EOps.d 127 (none) (i := 6) rfl rfl rfl rfl rfl (op_nilCheck_c rfl rfl ⟨rfl, rfl⟩) ?_) | (refine EOps.d 127 (none) (i := 6) rfl rfl rfl rfl rfl (op_nilCheck_f rfl rfl ⟨rfl, rfl⟩) ?_)
          first | (refine EOps.d 128 (none) (i := 7) rfl rfl rfl rfl rfl (op_fieldAddr_m rfl tf_81_1 rfl ⟨rfl, rfl⟩) ?_) | (refine EOps.d 128 (none) (i := 7) rfl rfl rfl rfl rfl (op_fieldAddr_c rfl tf_81_1 rfl rfl ⟨rfl, rfl⟩) ?_)
          refine EOps.nws (i := 5) rfl rfl rfl (op_callat [] (xs := []) rfl rfl rfl (empty_c) (by first | exact Les.refl _ | (repeat' (first | exact Les.refl _ | refine Les.cons ?_ ?_ | exact Le.refl _ | exact Le.own _ _ _ | exact Le.nil _ | refine Le.agg ?_))) ?_)
          rintro v1 M1 ⟨g3, g4, rfl, rfl⟩
          first | (refine EOps.d 129 (none) (i := 8) rfl rfl rfl rfl rfl (op_index_arrm (k := 0) rfl tu_79 ts_77 rfl rfl rfl (by decide) ⟨rfl, rfl⟩) ?_) | (refine EOps.d 129 (none) (i := 8) rfl rfl rfl rfl rfl (op_index_arrm (k := 1) rfl tu_79 ts_77 rfl rfl rfl (by decide) ⟨rfl, rfl⟩) ?_)
          first | (refine EOps.w 0 (i := 9) rfl rfl rfl rfl rfl (op_store (i := 0) rfl ts_77 rfl rfl rfl rfl rfl (Nat.le_of_ble_eq_true rfl) rfl ⟨_, rfl, ?_⟩)) | (refine EOps.w 1 (i := 9) rfl rfl rfl rfl rfl (op_store (i := 0) rfl ts_77 rfl rfl rfl rfl rfl (Nat.le_of_ble_eq_true rfl) rfl ⟨_, rfl, ?_⟩)) | (refine EOps.w 2 (i := 9) rfl rfl rfl rfl rfl (op_store (i := 0) rfl ts_77 rfl rfl rfl rfl rfl (Nat.le_of_ble_eq_true rfl) rfl ⟨_, rfl, ?_⟩)) | (refine EOps.w 3 (i := 9) rfl rfl rfl rfl rfl (op_store (i := 0) rfl ts_77 rfl rfl rfl rfl rfl (Nat.le_of_ble_eq_true rfl) rfl ⟨_, rfl, ?_⟩)) | (refine EOps.w 4 (i := 9) rfl rfl rfl rfl rfl (op_store (i := 0) rfl ts_77 rfl rfl rfl rfl rfl (Nat.le_of_ble_eq_true rfl) rfl ⟨_, rfl, ?_⟩)) | (refine EOps.w 5 (i := 9) rfl rfl rfl rfl rfl (op_store (i := 0) rfl ts_77 rfl rfl rfl rfl rfl (Nat.le_of_ble_eq_true rfl) rfl ⟨_, rfl, ?_⟩)) | (refine EOps.w 6 (i := 9) rfl rfl rfl rfl rfl (op_store (i := 0) rfl ts_77 rfl rfl rfl rfl rfl (Nat.le_of_ble_eq_true rfl) rfl ⟨_, rfl, ?_⟩)) | (refine EOps.w 7 (i := 9) rfl rfl rfl rfl rfl (op_store (i := 0) rfl ts_77 rfl rfl rfl rfl rfl (Nat.le_of_ble_eq_true rfl) rfl ⟨_, rfl, ?_⟩)) | (refine EOps.w 8 (i := 9) rfl rfl rfl rfl rfl (op_store (i := 0) rfl ts_77 rfl rfl rfl rfl rfl (Nat.le_of_ble_eq_true rfl) rfl ⟨_, rfl, ?_⟩)) | (refine EOps.w 9 (i := 9) rfl rfl rfl rfl rfl (op_store (i := 0) rfl ts_77 rfl rfl rfl rfl rfl (Nat.le_of_ble_eq_true rfl) rfl ⟨_, rfl, ?_⟩))
          show AGo _ _ _ _ _ _ _
          refine go_code ?_
          refine c_seq ?_
          refine c_region ?_
          refine AOps.st 130 rfl rfl rfl (op_move rfl rfl ?_)
          refine AOps.st 131 rfl rfl rfl (op_move rfl rfl ?_)
          first | (refine AOps.st 132 rfl rfl rfl (op_nilCheck_m rfl rfl ?_)) | (refine AOps.st 132 rfl rfl rfl (op_nilCheck_c rfl rfl ?_)) | (refine AOps.st 132 rfl rfl rfl (op_nilCheck_f rfl rfl ?_))
          first | (refine AOps.st 133 rfl rfl rfl (op_fieldAddr_m rfl tf_81_2 rfl ?_)) | (refine AOps.st 133 rfl rfl rfl (op_fieldAddr_c rfl tf_81_2 rfl rfl ?_))
          first | (refine AOps.st0 rfl rfl (op_store (i := 0) rfl ts_3 rfl rfl rfl rfl rfl (Nat.le_of_ble_eq_true rfl) rfl ?_)) | (refine AOps.st0 rfl rfl (op_store (i := 1) rfl ts_3 rfl rfl rfl rfl rfl (Nat.le_of_ble_eq_true rfl) rfl ?_)) | (refine AOps.st0 rfl rfl (op_store (i := 2) rfl ts_3 rfl rfl rfl rfl rfl (Nat.le_of_ble_eq_true rfl) rfl ?_)) | (refine AOps.st0 rfl rfl (op_store (i := 3) rfl ts_3 rfl rfl rfl rfl rfl (Nat.le_of_ble_eq_true rfl) rfl ?_)) | (refine AOps.st0 rfl rfl (op_store (i := 4) rfl ts_3 rfl rfl rfl rfl rfl (Nat.le_of_ble_eq_true rfl) rfl ?_)) | (refine AOps.st0 rfl rfl (op_store (i := 5) rfl ts_3 rfl rfl rfl rfl rfl (Nat.le_of_ble_eq_true rfl) rfl ?_)) | (refine AOps.st0 rfl rfl (op_store (i := 6) rfl ts_3 rfl rfl rfl rfl rfl (Nat.le_of_ble_eq_true rfl) rfl ?_)) | (refine AOps.st0 rfl rfl (op_store (i := 7) rfl ts_3 rfl rfl rfl rfl rfl (Nat.le_of_ble_eq_true rfl) rfl ?_)) | (refine AOps.st0 rfl rfl (op_store (i := 8) rfl ts_3 rfl rfl rfl rfl rfl (Nat.le_of_ble_eq_true rfl) rfl ?_)) | (refine AOps.st0 rfl rfl (op_store (i := 9) rfl ts_3 rfl rfl rfl rfl rfl (Nat.le_of_ble_eq_true rfl) rfl ?_))
          refine AOps.nil ?_
          refine go_code ?_
          refine c_seq ?_
          refine c_freeze (i := 5) (al' := [(8, .seq 1 (R.map iv))]) rfl rfl (fun e he => by obtain ⟨x, _, rfl⟩ := List.mem_map.1 he; rfl) rfl (by omega) (Frz.arr rfl Frz.nil) ?_
          refine c_region ?_
          refine AOps.st 134 rfl rfl rfl (op_move rfl rfl ?_)
          refine AOps.st 4 rfl rfl rfl (op_assign rfl rfl ?_)
          refine AOps.nil ?_
          refine go_code ?_
          refine c_ret ?_
          exact out_tmp (M' := [_, _, _]) rfl rfl (Le.refl _) (.cons _ (.drop _ (.drop _ (.cons _ (.cons _ (MLe.none _)))))) ⟨rfl, false, tw, tcw, tb, tcb, _, _, rfl⟩
        · refine c_cond_t rfl ?_
          refine c_skip ?_
          refine go_code ?_
          refine c_block ?_
          refine c_seq ?_
          obtain ⟨o, ho⟩ := getk (l := H) (i := k) (by
            rcases Nat.lt_or_ge k H.length with q | q
            · exact q
            · exfalso
              have : adr H k = used H + 1 := by rw [adr, List.take_of_length_le q]
              omega)
          have hoH := List.mem_of_getElem? ho
          have hnx := adr_next ho
          have hfit := adr_fit ho
          obtain ⟨e1, e2, e3, e4⟩ := HO.open_ (hH o hoH)
          have hO := Open_p o.head (headW_lo _ _ _) (headW_hi _ _ _)
          rw [e1, e2, e3, e4, hT o hoH] at hO
          have hx2 : ((hw H).map iv)[adr H k]? = some [.val (.int .u64 o.head)] := by rw [List.getElem?_map, (obj_cells ho (fun _ _ => rfl)).1]; rfl
          have hlW : ((hw H).map iv).length = used H + 1 := by simpa using hw_len H
          refine c_region ?_
          first | (refine AOps.st 74 rfl rfl rfl (op_fieldAddr_m rfl tf_90_1 rfl ?_)) | (refine AOps.st 74 rfl rfl rfl (op_fieldAddr_c rfl tf_90_1 rfl rfl ?_))
          first | (refine AOps.st 75 rfl rfl rfl (op_load_m1 (i := 0) rfl ta_87 rfl rfl rfl ?_)) | (refine AOps.st 75 rfl rfl rfl (op_load_m1 (i := 1) rfl ta_87 rfl rfl rfl ?_)) | (refine AOps.st 75 rfl rfl rfl (op_load_m1 (i := 2) rfl ta_87 rfl rfl rfl ?_)) | (refine AOps.st 75 rfl rfl rfl (op_load_m1 (i := 3) rfl ta_87 rfl rfl rfl ?_)) | (refine AOps.st 75 rfl rfl rfl (op_load_m1 (i := 4) rfl ta_87 rfl rfl rfl ?_)) | (refine AOps.st 75 rfl rfl rfl (op_load_m1 (i := 5) rfl ta_87 rfl rfl rfl ?_)) | (refine AOps.st 75 rfl rfl rfl (op_load_m1 (i := 6) rfl ta_87 rfl rfl rfl ?_)) | (refine AOps.st 75 rfl rfl rfl (op_load_m1 (i := 7) rfl ta_87 rfl rfl rfl ?_)) | (refine AOps.st 75 rfl rfl rfl (op_load_m1 (i := 8) rfl ta_87 rfl rfl rfl ?_)) | (refine AOps.st 75 rfl rfl rfl (op_load_m1 (i := 9) rfl ta_87 rfl rfl rfl ?_)) | (refine AOps.st 75 rfl rfl rfl (op_load_c1 rfl ta_87 rfl rfl ?_))
          first | (refine AOps.st 76 rfl rfl rfl (op_nilCheck_m rfl rfl ?_)) | (refine AOps.st 76 rfl rfl rfl (op_nilCheck_c rfl rfl ?_)) | (refine AOps.st 76 rfl rfl rfl (op_nilCheck_f rfl rfl ?_))
          first | (refine AOps.st 77 rfl rfl rfl (op_fieldAddr_m rfl tf_77_0 rfl ?_)) | (refine AOps.st 77 rfl rfl rfl (op_fieldAddr_c rfl tf_77_0 rfl rfl ?_))
          first | (refine AOps.st 78 rfl rfl rfl (op_load_m1 (i := 0) rfl ta_34 rfl rfl rfl ?_)) | (refine AOps.st 78 rfl rfl rfl (op_load_m1 (i := 1) rfl ta_34 rfl rfl rfl ?_)) | (refine AOps.st 78 rfl rfl rfl (op_load_m1 (i := 2) rfl ta_34 rfl rfl rfl ?_)) | (refine AOps.st 78 rfl rfl rfl (op_load_m1 (i := 3) rfl ta_34 rfl rfl rfl ?_)) | (refine AOps.st 78 rfl rfl rfl (op_load_m1 (i := 4) rfl ta_34 rfl rfl rfl ?_)) | (refine AOps.st 78 rfl rfl rfl (op_load_m1 (i := 5) rfl ta_34 rfl rfl rfl ?_)) | (refine AOps.st 78 rfl rfl rfl (op_load_m1 (i := 6) rfl ta_34 rfl rfl rfl ?_)) | (refine AOps.st 78 rfl rfl rfl (op_load_m1 (i := 7) rfl ta_34 rfl rfl rfl ?_)) | (refine AOps.st 78 rfl rfl rfl (op_load_m1 (i := 8) rfl ta_34 rfl rfl rfl ?_)) | (refine AOps.st 78 rfl rfl rfl (op_load_m1 (i := 9) rfl ta_34 rfl rfl rfl ?_)) | (refine AOps.st 78 rfl rfl rfl (op_load_c1 rfl ta_34 rfl rfl ?_))
          refine AOps.st 79 rfl rfl rfl (op_move rfl rfl ?_)
          refine AOps.st 80 rfl rfl rfl (op_index_row (i := 3) (k := adr H k) rfl te_34 rfl rfl rfl (by first | rfl | omega) (by omega) ?_)
          refine AOps.st 81 rfl rfl rfl (op_load_row1 (i := 3) (k := adr H k) (f := 0) rfl ta_42 rfl rfl rfl (hx2) rfl ?_)
          refine AOps.st 82 rfl rfl rfl (op_callp (xs := [.tmp 81]) rfl rfl (hO) (by first | exact Les.refl _ | (repeat' (first | exact Les.refl _ | refine Les.cons ?_ ?_ | exact Le.refl _ | exact Le.own _ _ _ | exact Le.nil _ | refine Le.agg ?_))) ?_)
          refine AOps.st 73 rfl rfl rfl (op_move rfl rfl ?_)
          refine AOps.st 83 rfl rfl rfl (op_extract rfl rfl rfl ?_)
          refine AOps.st 84 rfl rfl rfl (op_extract rfl rfl rfl ?_)
          refine AOps.st 85 rfl rfl rfl (op_extract rfl rfl rfl ?_)
          refine AOps.st 86 rfl rfl rfl (op_extract rfl rfl rfl ?_)
          refine AOps.st 12 rfl rfl rfl (op_assign rfl rfl ?_)
          refine AOps.st 13 rfl rfl rfl (op_assign rfl rfl ?_)
          refine AOps.st 14 rfl rfl rfl (op_assign rfl rfl ?_)
          refine AOps.st 15 rfl rfl rfl (op_assign rfl rfl ?_)
          refine AOps.nil ?_
          refine go_code ?_
          refine c_seq ?_
          refine c_seq ?_
          refine c_region ?_
          refine AOps.st 87 rfl rfl rfl (op_move rfl rfl ?_)
          first | (refine AOps.st 88 rfl rfl rfl (op_add rfl rfl rfl (IntWalk.i64_in _ (by omega)) ?_)) | (refine AOps.st 88 rfl rfl rfl (op_add rfl rfl rfl rfl ?_))
          refine AOps.st 16 rfl rfl rfl (op_assign rfl rfl ?_)
          refine AOps.nil ?_
          refine go_code ?_
          refine c_block ?_
          apply c_loopkm [1, 2, 3, 9, 10, 13, 15, 16, 17, 18, 19, 20, 21, 22, 23, 24, 25, 26, 27, 28, 29, 30, 31, 32, 33, 34, 35, 36, 37, 38, 39, 40, 41, 42, 43, 44, 45, 46, 47, 48, 49, 50, 51, 52, 53, 54, 55, 56, 57, 58, 59, 60, 61, 62, 63, 64, 89, 90, 91, 92, 93, 94, 95, 96, 97, 98, 99, 100, 101, 102, 103, 104, 105, 106, 107, 108, 109, 110, 111, 112, 113, 114, 115, 116] (σ := Nat) (fun zz => match zz with | z => [(16, .val (.int .i64 (adr H k + 1)))]) (fun zz => match zz with | z => True) (fun zz => match zz with | z => z) (0)
          · repeat' (first | exact Drops.nil | apply Drops.keep rfl | apply Drops.skip rfl)
          · exact trivial
          · exact (by repeat' (first | exact SLe.nil _ | refine SLe.cons rfl ?_ ?_ | exact Le.refl _ | exact Le.own _ _ _ | exact Le.nil _))
          rintro z hI
          try dsimp only [List.cons_append, List.nil_append] at hI ⊢
          refine c_seq ?_
          refine c_seq ?_
          refine c_bool 97 (False) ?_ _ _ rfl ?_
          · skip
            refine AOps.st 89 rfl rfl rfl (op_move rfl rfl ?_)
            refine AOps.st 90 rfl rfl rfl (op_neq rfl rfl rfl ?_); intro c90 h90
            refine AOps.st 91 rfl rfl rfl (op_move rfl rfl ?_)
            rcases bool_split h90 with ⟨rfl, g90⟩ | ⟨rfl, g90⟩
            · skip
              refine AOps.gf 92 rfl rfl rfl rfl rfl ?_
              refine AOps.gf 93 rfl rfl rfl rfl rfl ?_
              refine AOps.gf 94 rfl rfl rfl rfl rfl ?_
              refine AOps.gf 95 rfl rfl rfl rfl rfl ?_
              refine AOps.gf 96 rfl rfl rfl rfl rfl ?_
              refine AOps.st 97 rfl rfl rfl (op_pick rfl rfl rfl ?_)
              refine AOps.nil ?_
              refine BoolQ.mk rfl ?_ (by repeat' (first | exact SLe.wo _ _ | exact SLe.refl _ | refine SLe.fresh rfl ?_)) (by first | exact MLe.none _ | exact MLe.refl _ | (repeat' (first | exact MLe.nil | exact MLe.refl _ | refine MLe.cons _ ?_ | refine MLe.drop _ ?_)))
              first | (simp_all; done) | (simp_all; omega)
            · skip
              refine AOps.gt 92 rfl rfl rfl rfl rfl (op_move rfl rfl ?_)
              refine AOps.gt 93 rfl rfl rfl rfl rfl (op_move rfl rfl ?_)
              refine AOps.gt 94 rfl rfl rfl rfl rfl (op_move rfl rfl ?_)
              first | (refine AOps.gt 95 rfl rfl rfl rfl rfl (op_add rfl rfl rfl (IntWalk.i64_in _ (by omega)) ?_)) | (refine AOps.gt 95 rfl rfl rfl rfl rfl (op_add rfl rfl rfl rfl ?_))
              refine AOps.gt 96 rfl rfl rfl rfl rfl (op_leq rfl rfl rfl ?_); intro c96 h96
              refine AOps.st 97 rfl rfl rfl (op_pick rfl rfl rfl ?_)
              refine AOps.nil ?_
              refine BoolQ.mk rfl ?_ (by repeat' (first | exact SLe.wo _ _ | exact SLe.refl _ | refine SLe.fresh rfl ?_)) (by first | exact MLe.none _ | exact MLe.refl _ | (repeat' (first | exact MLe.nil | exact MLe.refl _ | refine MLe.cons _ ?_ | refine MLe.drop _ ?_)))
              first | (simp_all; done) | (simp_all; omega)
          intro c97 h97
          refine go_code ?_
          rcases bool_split h97 with ⟨rfl, g97⟩ | ⟨rfl, g97⟩
          · refine c_cond_f rfl ?_
            refine c_exit ?_
            refine x_code ?_
            refine x_lp ?_
            refine x_here ?_
            refine go_code ?_
            refine c_region ?_
            refine AOps.st 117 rfl rfl rfl (op_move rfl rfl ?_)
            refine AOps.st 118 rfl rfl rfl (op_move rfl rfl ?_)
            first | (refine AOps.st 119 rfl rfl rfl (op_add rfl rfl rfl (IntWalk.i64_in _ (by omega)) ?_)) | (refine AOps.st 119 rfl rfl rfl (op_add rfl rfl rfl rfl ?_))
            first | (refine AOps.st 120 rfl rfl rfl (op_add rfl rfl rfl (IntWalk.i64_in _ (by omega)) ?_)) | (refine AOps.st 120 rfl rfl rfl (op_add rfl rfl rfl rfl ?_))
            refine AOps.st 11 rfl rfl rfl (op_assign rfl rfl ?_)
            refine AOps.nil ?_
            refine go_blk ?_
            refine go_lp ?_
            exact ⟨k + 1, by have := get_lt ho; omega, by have := get_lt ho; show H.length - (k + 1) < H.length - k; omega, SLe.cons rfl (Le.ieq (by omega)) (by repeat' (first | exact SLe.nil _ | refine SLe.cons rfl ?_ ?_ | exact Le.refl _ | exact Le.own _ _ _ | exact Le.nil _)), (by first | exact MLe.none _ | exact MLe.refl _ | (repeat' (first | exact MLe.nil | exact MLe.refl _ | refine MLe.cons _ ?_ | refine MLe.drop _ ?_)))⟩
          · refine c_cond_t rfl ?_
            refine c_skip ?_
            refine go_code ?_
            refine c_seq ?_
            refine c_block ?_
            exact g97.elim
      · refine c_cond_t rfl ?_
        refine c_skip ?_
        refine go_code ?_
        refine c_seq ?_
        refine c_block ?_
        refine c_seq ?_
        obtain ⟨o, ho⟩ := getk (l := H) (i := k) (by omega)
        have hgk := hg k (by omega)
        have hoH := List.mem_of_getElem? ho
        obtain ⟨a1, a2⟩ := obj_cells ho hWj
        obtain ⟨a', b1, b2, b3, b4, b5, b6⟩ := at_some hu (objOf_adr ho)
        have haa : atV (2 * ((adr H k : Nat) : Int)) = ((adr H k : Nat) : Int) := by rw [b1]; unfold atV at b1; split at b1 <;> omega
        have hfit := adr_fit ho
        have hstep := fill_step (z := iv 0) hlR hgk
        have hwid : ∀ e ∈ (R.map iv).take k ++ List.replicate (H.length - k) (iv 0), e.length = 1 := fun e he => by
          rcases List.mem_append.1 he with he | he
          · obtain ⟨x, _, rfl⟩ := List.mem_map.1 (List.mem_of_mem_take he); rfl
          · rw [(List.mem_replicate.1 he).2]; rfl
        have hmv := move_c true b (.val (.int .i64 sz)) gw cw gb cb tw tcw tb tcb W H (H.take k) o (2 * ((adr H k : Nat) : Int)) (by omega) (by omega) hu (by have := used_take H k; omega) hWl (adr H k) haa b2 (hH o hoH) a1 a2 hfit
        refine c_region ?_
        refine AOps.st 55 rfl rfl rfl (op_move rfl rfl ?_)
        first | (refine AOps.st 56 rfl rfl rfl (op_index rfl te_34 rfl (.seq _ _) rfl rfl (hgk) ?_)) | (refine AOps.st 56 rfl rfl rfl (op_index (i := 0) rfl te_34 rfl (.seq _ _) rfl rfl (by first | rfl | assumption) ?_)) | (refine AOps.st 56 rfl rfl rfl (op_index (i := 1) rfl te_34 rfl (.seq _ _) rfl rfl (by first | rfl | assumption) ?_)) | (refine AOps.st 56 rfl rfl rfl (op_index rfl te_34 rfl (.own _ _ _) rfl rfl (hgk) ?_)) | (refine AOps.st 56 rfl rfl rfl (op_index (i := 0) rfl te_34 rfl (.own _ _ _) rfl rfl (by first | rfl | assumption) ?_)) | (refine AOps.st 56 rfl rfl rfl (op_index (i := 1) rfl te_34 rfl (.own _ _ _) rfl rfl (by first | rfl | assumption) ?_)) | (refine AOps.st 56 rfl rfl rfl (op_index_arr rfl te_34 rfl rfl rfl (by omega) ?_))
        first | (refine AOps.st 57 rfl rfl rfl (op_load_m1 (i := 0) rfl ta_42 rfl rfl rfl ?_)) | (refine AOps.st 57 rfl rfl rfl (op_load_m1 (i := 1) rfl ta_42 rfl rfl rfl ?_)) | (refine AOps.st 57 rfl rfl rfl (op_load_m1 (i := 2) rfl ta_42 rfl rfl rfl ?_)) | (refine AOps.st 57 rfl rfl rfl (op_load_m1 (i := 3) rfl ta_42 rfl rfl rfl ?_)) | (refine AOps.st 57 rfl rfl rfl (op_load_m1 (i := 4) rfl ta_42 rfl rfl rfl ?_)) | (refine AOps.st 57 rfl rfl rfl (op_load_m1 (i := 5) rfl ta_42 rfl rfl rfl ?_)) | (refine AOps.st 57 rfl rfl rfl (op_load_m1 (i := 6) rfl ta_42 rfl rfl rfl ?_)) | (refine AOps.st 57 rfl rfl rfl (op_load_m1 (i := 7) rfl ta_42 rfl rfl rfl ?_)) | (refine AOps.st 57 rfl rfl rfl (op_load_m1 (i := 8) rfl ta_42 rfl rfl rfl ?_)) | (refine AOps.st 57 rfl rfl rfl (op_load_m1 (i := 9) rfl ta_42 rfl rfl rfl ?_)) | (refine AOps.st 57 rfl rfl rfl (op_load_c1 rfl ta_42 rfl rfl ?_))
        refine AOps.st 9 rfl rfl rfl (op_assign rfl rfl ?_)
        refine AOps.st 10 rfl rfl rfl (op_assign rfl rfl ?_)
        refine AOps.nil ?_
        refine go_code ?_
        refine c_region ?_
        refine AOps.st 58 rfl rfl rfl (op_move rfl rfl ?_)
        refine AOps.st 59 rfl rfl rfl (op_move rfl rfl ?_)
        refine AOps.st 60 rfl rfl rfl (op_move rfl rfl ?_)
        refine AOps.st 61 rfl rfl rfl (op_move rfl rfl ?_)
        refine AOps.st 62 rfl rfl rfl (op_callvat [0,0,0,0,0] (xs := [.tmp 61])  rfl rfl rfl rfl hmv (by first | exact Les.refl _ | (repeat' (first | exact Les.refl _ | refine Les.cons ?_ ?_ | exact Le.refl _ | exact Le.own _ _ _ | exact Le.nil _ | refine Le.agg ?_))) ?_)
        rintro v1 M1 ⟨rfl, tw2, tcw2, tb2, tcb2, rfl⟩
        first | (refine AOps.st 63 rfl rfl rfl (op_index rfl te_34 rfl (.seq _ _) rfl rfl (by assumption) ?_)) | (refine AOps.st 63 rfl rfl rfl (op_index (i := 0) rfl te_34 rfl (.seq _ _) rfl rfl (by first | rfl | assumption) ?_)) | (refine AOps.st 63 rfl rfl rfl (op_index (i := 1) rfl te_34 rfl (.seq _ _) rfl rfl (by first | rfl | assumption) ?_)) | (refine AOps.st 63 rfl rfl rfl (op_index rfl te_34 rfl (.own _ _ _) rfl rfl (by assumption) ?_)) | (refine AOps.st 63 rfl rfl rfl (op_index (i := 0) rfl te_34 rfl (.own _ _ _) rfl rfl (by first | rfl | assumption) ?_)) | (refine AOps.st 63 rfl rfl rfl (op_index (i := 1) rfl te_34 rfl (.own _ _ _) rfl rfl (by first | rfl | assumption) ?_)) | (refine AOps.st 63 rfl rfl rfl (op_index_arr rfl te_34 rfl rfl rfl (by omega) ?_))
        refine AOps.st0 rfl rfl (op_store_row (k := 5) rfl ts_42 rfl rfl rfl rfl rfl (hwid) ((by simp; omega)) ?_)
        refine AOps.nil ?_
        refine go_blk ?_
        refine go_code ?_
        refine c_region ?_
        first | (refine AOps.st 64 rfl rfl rfl (op_add rfl rfl rfl (IntWalk.i64_in _ (by omega)) ?_)) | (refine AOps.st 64 rfl rfl rfl (op_add rfl rfl rfl rfl ?_))
        refine AOps.st 53 rfl rfl rfl (op_move rfl rfl ?_)
        refine AOps.nil ?_
        refine go_lp ?_
        refine ⟨(k + 1, W.set (adr H k) (2 * ((adr H k : Nat) : Int)), tw2, tcw2, tb2, tcb2), ⟨by omega, by simpa using hWl, fun j hj => ?_⟩, by show H.length - (k + 1) < _; omega, (by repeat' (first | exact SLe.nil _ | refine SLe.cons rfl ?_ ?_ | exact Le.refl _ | exact Le.own _ _ _ | exact Le.nil _)), ?_⟩
        · rw [adr_next ho] at hj
          rw [List.getElem?_set_ne (by omega)]
          exact hWj j (by omega)
        · refine MLe.of_eq ?_
          dsimp only
          rw [take_next ho, ← hstep]
          rfl
    · refine c_cond_t rfl ?_
      refine c_seq ?_
      exact absurd h19 (by simp)
end Go.Proofs.Ytecpnlhjjmcllaa
namespace Go.Proofs.Ytecpnlhjjmcllaa
/-- bytes as one number, the first lowest -/
def leN : List Nat → Nat
  | [] => 0
  | b :: bs => b + 256 * leN bs
theorem leN_app (a : List Nat) : ∀ b : List Nat, leN (a ++ b) = leN a + 256 ^ a.length * leN b := by
  induction a with
  | nil => intro b; simp [leN]
  | cons x a ih =>
    intro b
    simp only [List.cons_append, leN, ih, List.length_cons, Nat.pow_succ]
    rw [Nat.mul_add, ← Nat.mul_assoc, Nat.mul_comm 256 (256 ^ a.length)]
    omega
theorem leN_lt (a : List Nat) (h : ∀ x ∈ a, x < 256) : leN a < 256 ^ a.length := by
  induction a with
  | nil => simp [leN]
  | cons x a ih =>
    have h1 := h x (by simp)
    have h2 := ih (fun y hy => h y (by simp [hy]))
    simp only [leN, List.length_cons, Nat.pow_succ]
    omega
def chunk (s : List Nat) (j : Nat) : List Nat := (s.drop (8 * j)).take 8
/-- the words of bytes -/
def packL (s : List Nat) : List Nat := (List.range ((s.length + 7) / 8)).map fun j => leN (chunk s j)
/-- the words of the first k bytes, in so many places -/
def packTo (s : List Nat) (k n : Nat) : List Nat := (List.range n).map fun j => leN (chunk (s.take k) j)
theorem packTo_len (s : List Nat) (k n : Nat) : (packTo s k n).length = n := by simp [packTo]
theorem packL_len (s : List Nat) : (packL s).length = (s.length + 7) / 8 := by simp [packL]
theorem packTo_zero (s : List Nat) (n : Nat) : packTo s 0 n = List.replicate n 0 := by
  simp only [packTo, List.take_zero]
  rw [List.eq_replicate_iff]
  simp [chunk, leN]
theorem packTo_full (s : List Nat) (k : Nat) (h : s.length ≤ k) : packTo s k ((s.length + 7) / 8) = packL s := by
  simp only [packTo, packL, List.take_of_length_le h]
theorem packTo_get (s : List Nat) (k n j : Nat) (h : j < n) : (packTo s k n)[j]? = some (leN (chunk (s.take k) j)) := by
  simp [packTo, h]
theorem chunk_take_of_le (s : List Nat) (k j : Nat) (h : k ≤ 8 * j) : chunk (s.take k) j = [] := by
  simp only [chunk]
  rw [List.drop_eq_nil_of_le (by simp; omega)]
  rfl
theorem chunk_other (s : List Nat) (k j : Nat) (h : j ≠ k / 8) : chunk (s.take (k + 1)) j = chunk (s.take k) j := by
  by_cases h1 : k < 8 * j
  · rw [chunk_take_of_le _ _ _ (by omega), chunk_take_of_le _ _ _ (by omega)]
  · simp only [chunk, List.drop_take, List.take_take]
    rw [Nat.min_eq_left (by omega), Nat.min_eq_left (by omega)]
theorem chunk_step (s : List Nat) (k : Nat) (h : k < s.length) : chunk (s.take (k + 1)) (k / 8) = chunk (s.take k) (k / 8) ++ [s[k]] := by
  simp only [chunk, List.drop_take, List.take_take]
  rw [Nat.min_eq_right (by omega), Nat.min_eq_right (by omega), show k + 1 - 8 * (k / 8) = (k - 8 * (k / 8)) + 1 from by omega]
  rw [List.take_succ_eq_append_getElem (by simp; omega)]
  simp only [List.getElem_drop]
  congr 3
  omega
theorem chunk_len (s : List Nat) (k : Nat) (h : k ≤ s.length) : (chunk (s.take k) (k / 8)).length = k % 8 := by
  simp only [chunk, List.length_take, List.length_drop]
  omega
theorem chunk_mem {s : List Nat} {j x : Nat} (h : x ∈ chunk s j) : x ∈ s := List.mem_of_mem_drop (List.mem_of_mem_take h)
theorem word_step (s : List Nat) (k : Nat) (h : k < s.length) : leN (chunk (s.take (k + 1)) (k / 8)) = leN (chunk (s.take k) (k / 8)) + 256 ^ (k % 8) * s[k] := by
  rw [chunk_step s k h, leN_app, chunk_len s k (by omega)]
  simp [leN]
theorem word_lt (s : List Nat) (k : Nat) (hs : ∀ x ∈ s, x < 256) (h : k ≤ s.length) : leN (chunk (s.take k) (k / 8)) < 256 ^ (k % 8) := by
  have := leN_lt (chunk (s.take k) (k / 8)) (fun x hx => hs x (List.mem_of_mem_take (chunk_mem hx)))
  rwa [chunk_len s k h] at this
theorem packTo_step (s : List Nat) (k n : Nat) (h : k < s.length) : packTo s (k + 1) n = (packTo s k n).set (k / 8) (leN (chunk (s.take k) (k / 8)) + 256 ^ (k % 8) * s[k]) := by
  apply List.ext_getElem
  · simp [packTo]
  · intro j h1 h2
    rw [List.getElem_set]
    simp only [packTo, List.getElem_map, List.getElem_range]
    split
    · rename_i e; rw [← e, word_step s k h]
    · rename_i e; rw [chunk_other s k j (by omega)]
/-- the bytes of a text -/
def bytesN (s : ByteArray) : List Nat := s.data.toList.map UInt8.toNat
theorem bytesN_len (s : ByteArray) : (bytesN s).length = s.size := by simp [bytesN]
theorem bytesN_get (s : ByteArray) (k : Nat) (h : k < s.size) (h' : k < (bytesN s).length) : (bytesN s)[k] = (s[k]).toNat := by
  simp [bytesN]; rfl
theorem bytesN_lt (s : ByteArray) : ∀ x ∈ bytesN s, x < 256 := by
  intro x hx
  simp only [bytesN, List.mem_map] at hx
  obtain ⟨b, _, rfl⟩ := hx
  exact b.toNat_lt
theorem or_byte (u b r : Nat) (hr : r < 8) (hb : b < 256) (hu : u < 256 ^ r) :
    bits .or .u64 (u : Int) (IntKind.u64.wrap (IntKind.u64.wrap (b : Int) * 2 ^ (8 * r))) = ((u + 256 ^ r * b : Nat) : Int) := by
  have hp : 256 ^ r = 2 ^ (8 * r) := by rw [Nat.pow_mul]
  have hp2 : 2 ^ (8 * r) ≤ 2 ^ 56 := Nat.pow_le_pow_right (by omega) (by omega)
  have hc : ((2 : Int) ^ (8 * r)) = ((2 ^ (8 * r) : Nat) : Int) := by simp
  rw [hp] at hu ⊢
  rw [hc]
  obtain ⟨q, hq⟩ : ∃ q : Nat, q = 2 ^ (8 * r) := ⟨_, rfl⟩
  have hm : q * b ≤ 72057594037927936 * 255 := Nat.mul_le_mul (by omega) (by omega)
  have hu' : u < q := by omega
  have hle : q ≤ 72057594037927936 := by omega
  have e1 : IntKind.u64.wrap (b : Int) = b := by rw [IntKind.wrap_u64]; omega
  have e2 : IntKind.u64.wrap ((b : Int) * (q : Int)) = ((q * b : Nat) : Int) := by
    have : (b : Int) * (q : Int) = ((q * b : Nat) : Int) := by rw [Nat.mul_comm]; simp
    rw [this, IntKind.wrap_u64]
    generalize q * b = z at *
    omega
  rw [← hq, e1, e2, u64_or_nat _ _ (by omega) (by omega), Nat.or_comm, nat_join (8 * r)]
  · rw [Nat.add_comm]
  · rw [← hq]; exact Nat.mul_mod_right q b
  · omega
theorem u64s_set (l : List Nat) (j x : Nat) : (l.map fun n : Nat => Value.int .u64 (n : Int)).set j (.int .u64 (x : Int)) = (l.set j x).map fun n : Nat => Value.int .u64 (n : Int) := by
  rw [List.map_set]
end Go.Proofs.Ytecpnlhjjmcllaa
namespace Go.Proofs.Ytecpnlhjjmcllaa
open Go.RowKit
theorem infoU64 : (Try.prog.info? 42).map (fun i => (i.zero, i.size, i.bytes)) = some (some (.int .u64 0), 1, 8) := by kernel_rfl
def u64s (l : List Nat) : List Value := l.map fun n : Nat => Value.int .u64 (n : Int)
theorem u64s_len (l : List Nat) : (u64s l).length = l.length := by simp [u64s]
set_option maxHeartbeats 1000000 in
theorem Pack_c (s : ByteArray) (w : World) (hs : s.size ≤ 1000000000) :
    Calls Try.prog 58 #[.string s] w fun e w' => ∃ v, e = .returned v ∧ w'.ownsRow w.heap.size 42 1 v ((s.size + 7) / 8) (u64s (packL (bytesN s))) ∧ Below w.heap.size w w' := by
  obtain ⟨i0, hi, hz0, hz1, hz2⟩ := info_parts infoU64
  have hb8 : i0.bytes * ((s.size + 7) / 8) ≤ 281474976710656 := by rw [hz2]; omega
  have HZ0 := Lib.hid hz0
  have HZ1 := Lib.hid hz1
  have HI := Lib.hid hi
  clear hz0 hz1 hi hz2
  go_enter Try.func58, Try.ntmps58
  go_wp2_with (at_make; refine wpList_make_full _ rfl _ _ 34 rfl w.heap.size 42 i0 (.int .u64 0) 1 Try.underlying34 HI.out HZ0.out HZ1.out .i64 .i64 _ _ ((s.size + 7) / 8) rfl rfl (by omega) (by omega) hb8 (by unfold maxLen; omega) (Nat.le_refl _) ?_; intro w1 hown hgrow)
  have hown0 : w1.ownsRow w.heap.size 42 1 (.slice (some ⟨w.heap.size, 0, none⟩) ((s.size + 7) / 8) ((s.size + 7) / 8)) ((s.size + 7) / 8) (u64s (packTo (bytesN s) 0 ((s.size + 7) / 8))) := by
    rw [packTo_zero]
    have e : (madeCells (Value.int IntKind.u64 0).cells ((s.size + 7) / 8 * 1)).toList = u64s (List.replicate ((s.size + 7) / 8) 0) := by
      rw [Nat.mul_one]; exact (toList_madeCells_one _ _).trans (by simp [u64s])
    rw [e] at hown; exact hown
  have hbel0 : Below w.heap.size w w1 := (Below.refl _ _).grown hgrow (Nat.le_refl _) (by simp)
  clear hown hgrow
  go_loopw [12] (fun vi wr => ∃ k : Nat, k ≤ s.size ∧ vi = .int .i64 k ∧ wr.ownsRow w.heap.size 42 1 (.slice (some ⟨w.heap.size, 0, none⟩) ((s.size + 7) / 8) ((s.size + 7) / 8)) ((s.size + 7) / 8) (u64s (packTo (bytesN s) k ((s.size + 7) / 8))) ∧ Below w.heap.size w wr) (fun vi _ => s.size - (intOf vi).toNat)
  case atStart => exact ⟨0, Nat.zero_le _, rfl, hown0, hbel0⟩
  case round =>
    obtain ⟨k, hk, rfl, hown, hbel⟩ := hrel
    by_cases hks : k < s.size
    · have hkl : k < (bytesN s).length := by rw [bytesN_len]; exact hks
      have hcell : wr.cell? ⟨w.heap.size, k / 8, none⟩ = some (.int .u64 (leN (chunk ((bytesN s).take k) (k / 8)) : Nat)) := by
        rw [hown.cellAt (k / 8) (by omega)]
        simp only [u64s, List.getElem?_map]
        rw [packTo_get _ _ _ _ (by omega)]; rfl
      have hfr : wr.frozen? ⟨w.heap.size, k / 8, none⟩ = false := hown.frozenAt _
      obtain ⟨u, hu⟩ : ∃ u, u = leN (chunk ((bytesN s).take k) (k / 8)) := ⟨_, rfl⟩
      rw [← hu] at hcell
      have Hu := Lib.hid hu
      clear hu
      have i1 : (0 : Int) ≤ (k : Int) / 8 := by omega
      have i2 : (k : Int) / 8 < (((s.size + 7) / 8 : Nat) : Int) := by omega
      go_wp2
      go_region
      go_wp2
      go_roundw
      case rel =>
        have hb := bytesN_lt s _ (List.getElem_mem hkl)
        rw [bytesN_get s k hks hkl] at hb
        have hval := or_byte u (s[k]).toNat (k % 8) (by omega) hb (by rw [Hu.out]; exact word_lt _ _ (bytesN_lt s) (by omega))
        rw [hval]
        have hst := hown.stored (k / 8) (.int .u64 ((u + 256 ^ (k % 8) * (s[k]).toNat : Nat) : Int))
        refine ⟨k + 1, by omega, by go_num, ?_, (hbel.grown hst.2 hbel.size (fun j hj => by simp at hj; omega)).drew⟩
        have h1 := hst.1.drew
        rw [packTo_step _ k _ hkl, bytesN_get s k hks hkl, ← Hu.out]
        rw [u64s, u64s_set] at h1
        exact h1
      case measure => simp [intOf]; omega
    · go_wp2
      go_ret
      have hke : k = s.size := by omega
      subst hke
      exact ⟨_, rfl, by rw [← packTo_full _ s.size (by rw [bytesN_len]; exact Nat.le_refl _), bytesN_len]; exact hown, hbel⟩
end Go.Proofs.Ytecpnlhjjmcllaa
namespace Go.Proofs.Ytecpnlhjjmcllaa
open Go.RowKit
/-- the address of a slice of n elements (none: only if there are none) and its cells -/
def SlAt (w : World) (ao : Option Addr) (size n : Nat) (xs : List Value) : Prop :=
  xs.length = n * size ∧ (n = 0 ∨ ∃ b off, ao = some ⟨b, off, none⟩ ∧ ∀ j, j < n * size → w.cell? ⟨b, off + j, none⟩ = xs[j]?)
theorem SlAt.len {w : World} {ao : Option Addr} {size n : Nat} {xs : List Value} (h : SlAt w ao size n xs) : xs.length = n * size := h.1
theorem SlAt.get {w : World} {ao : Option Addr} {size n : Nat} {xs : List Value} (h : SlAt w ao size n xs) (hn : 0 < n) :
    ∃ b off, ao = some ⟨b, off, none⟩ ∧ ∀ j, j < n * size → w.cell? ⟨b, off + j, none⟩ = xs[j]? := by
  rcases h.2 with h | h
  · omega
  · exact h
theorem SlAt.nil (w : World) (ao : Option Addr) (size : Nat) : SlAt w ao size 0 [] := ⟨by simp, Or.inl rfl⟩
theorem cell_lt {w : World} {b o : Nat} {x : Value} (h : w.cell? ⟨b, o, none⟩ = some x) : b < w.heap.size := by
  unfold World.cell? at h
  rcases Nat.lt_or_ge b w.heap.size with k | k
  · exact k
  · rw [Array.getElem?_eq_none (by exact k)] at h; simp at h
theorem SlAt.below {w w' : World} {ao : Option Addr} {size n : Nat} {xs : List Value} (h : SlAt w ao size n xs) (hb : Below w.heap.size w w') : SlAt w' ao size n xs := by
  refine ⟨h.1, ?_⟩
  rcases h.2 with e | ⟨b, off, e, hc⟩
  · exact Or.inl e
  · refine Or.inr ⟨b, off, e, fun j hj => ?_⟩
    have hx := hc j hj
    have hlt : b < w.heap.size := by
      have hj' : j < xs.length := by rw [h.1]; exact hj
      rw [List.getElem?_eq_getElem hj'] at hx
      exact cell_lt hx
    rw [hb.cell (p := ⟨b, off + j, none⟩) hlt]; exact hx
theorem SlAt.of_own {w : World} {base : Nat} {e : TypeId} {size : Nat} {v : Value} {n : Nat} {xs : List Value} (h : w.ownsRow base e size v n xs) :
    ∃ ao cap, v = .slice ao n cap ∧ SlAt w ao size n xs := by
  have h' := h
  rcases h.2 with ⟨rfl, rfl⟩ | ⟨g, cap, cur, rfl, _⟩
  · exact ⟨none, 0, rfl, h.1, Or.inl rfl⟩
  · exact ⟨some ⟨g, 0, none⟩, cap, rfl, h.1, Or.inr ⟨g, 0, rfl, fun j hj => by rw [Nat.zero_add]; exact h'.cellAt j hj⟩⟩
end Go.Proofs.Ytecpnlhjjmcllaa
namespace Go.Proofs.Ytecpnlhjjmcllaa
open Go.RowKit
end Go.Proofs.Ytecpnlhjjmcllaa
namespace Go.Proofs.Ytecpnlhjjmcllaa
open Go.RowKit
/-- a slice type t of elements e: its zero value, its cells, its bytes -/
structure ElemT (P : Program) (t e : TypeId) (z : Value) (size bytes : Nat) : Prop where
  und : P.underlying t = some (.slice e)
  info : (P.info? e).map (fun i => (i.zero, i.size, i.bytes)) = some (some z, size, bytes)
  zs : z.cells.size = size
  pos : 0 < size
  small : bytes ≤ 1024
theorem one_int (k : IntKind) (n : Int) : ∀ u ∈ [Value.int k n], u.oneCell' = true := by intro u hu; simp at hu; subst hu; rfl
theorem one_string (s : ByteArray) : ∀ u ∈ [Value.string s], u.oneCell' = true := by intro u hu; simp at hu; subst hu; rfl
theorem one_bool (b : Bool) : ∀ u ∈ [Value.bool b], u.oneCell' = true := by intro u hu; simp at hu; subst hu; rfl
theorem own_block_ge {w : World} {base : Nat} {e : TypeId} {size : Nat} {v : Value} {n : Nat} {xs : List Value} (h : w.ownsRow base e size v n xs) : ∀ k, v.ownBlock = some k → base ≤ k := by
  intro k hk
  rcases h.2 with ⟨rfl, _⟩ | ⟨g, cap, cur, rfl, hg, _⟩
  · simp [Value.ownBlock] at hk
  · simp [Value.ownBlock] at hk; omega
theorem below_chain {B C : Nat} {a b c : World} (h : Below B a b) (k : Below C b c) (hBC : B ≤ C) : Below B a c := h.trans (k.mono hBC)
theorem bel_trans {a b c : World} (h : Below a.heap.size a b) (k : Below b.heap.size b c) : Below a.heap.size a c := h.trans (k.mono h.size)
theorem own_below {w w' : World} {base : Nat} {e : TypeId} {size : Nat} {v : Value} {n : Nat} {xs : List Value} (h : w.ownsRow base e size v n xs) (hb : Below w.heap.size w w') : w'.ownsRow base e size v n xs := by
  refine ⟨h.1, ?_⟩
  rcases h.2 with ⟨h1, h2⟩ | ⟨g, cap, cur, h1, h2, h3, h4⟩
  · exact Or.inl ⟨h1, h2⟩
  · have hg : g < w.heap.size := by
      rcases Nat.lt_or_ge g w.heap.size with k | k
      · exact k
      · rw [Array.getElem?_eq_none k] at h3; simp at h3
    exact Or.inr ⟨g, cap, cur, h1, h2, (hb.block g hg).trans h3, h4⟩
/-- two values that own no block together -/
def Apart (a b : Value) : Prop := a.ownBlock = none ∨ b.ownBlock = none ∨ a.ownBlock ≠ b.ownBlock
theorem Apart.symm {a b : Value} (h : Apart a b) : Apart b a := by
  rcases h with h | h | h
  · exact Or.inr (Or.inl h)
  · exact Or.inl h
  · exact Or.inr (Or.inr (fun e => h e.symm))
theorem Apart.nil_left (b : Value) : Apart (.slice none 0 0) b := Or.inl rfl
theorem own_block_lt {w : World} {base : Nat} {e : TypeId} {size : Nat} {v : Value} {n : Nat} {xs : List Value} (h : w.ownsRow base e size v n xs) : ∀ k, v.ownBlock = some k → k < w.heap.size := by
  intro k hk
  rcases h.2 with ⟨rfl, _⟩ | ⟨g, cap, cur, rfl, hg, h3, _⟩
  · simp [Value.ownBlock] at hk
  · simp [Value.ownBlock] at hk
    subst hk
    rcases Nat.lt_or_ge g w.heap.size with k | k
    · exact k
    · rw [Array.getElem?_eq_none k] at h3; simp at h3
theorem Apart.grow {w : World} {base : Nat} {e : TypeId} {size : Nat} {a a' b : Value} {n : Nat} {xs : List Value} (h : Apart a b) (hb : w.ownsRow base e size b n xs) (ha : a'.ownBlock = a.ownBlock ∨ a'.ownBlock = some w.heap.size) : Apart a' b := by
  rcases ha with ha | ha
  · unfold Apart; rw [ha]; exact h
  · cases hbb : b.ownBlock with
    | none => exact Or.inr (Or.inl hbb)
    | some k =>
      have := own_block_lt hb k hbb
      exact Or.inr (Or.inr (by rw [ha, hbb]; intro e; simp at e; omega))
theorem Apart.kept {w w' : World} {base : Nat} {e : TypeId} {size : Nat} {a b : Value} {n : Nat} {xs : List Value} (h : Apart a b) (hb : w.ownsRow base e size b n xs) (hg : w.grownBy w' a.ownBlock) : w'.ownsRow base e size b n xs := by
  rcases h with h | h | h
  · refine hb.kept hg ?_
    cases hbb : b.ownBlock with
    | none => exact Or.inl rfl
    | some k => rw [h]; exact Or.inr (by simp)
  · exact hb.kept hg (Or.inl h)
  · exact hb.kept hg (Or.inr (fun e => h e.symm))
theorem wpList_app {P : Program} {w : World} {ops : Array Oper} {rest : List Oper} {o : Oper} {a : Act} {Q : Exit → Act → World → Prop} {t e : TypeId} {z : Value} {size bytes : Nat} (E : ElemT P t e z size bytes)
    (hgd : o.guard = none) (s x : Operand) (ho : o.op = .call { callee := .builtin .append, args := #[s, x], argTypes := #[t, t] })
    (B base : Nat) (w0 : World) (v : Value) (n : Nat) (xs : List Value) (hs : a.eval s = v) (hown : w.ownsRow base e size v n xs)
    (g : Nat) (news : List Value) (hx : a.eval x = .slice (some ⟨g, 0, none⟩) 1 1) (hl : news.length = size) (hnews : ∀ j u, news[j]? = some u → w.cell? ⟨g, j, none⟩ = some u) (h1 : ∀ u ∈ news, u.oneCell' = true)
    (hn : n ≤ 100000000000) (hB : Below B w0 w) (hBb : B ≤ base) (hbase : base ≤ w.heap.size)
    (h : ∀ v' w', w'.ownsRow base e size v' (n + 1) (xs ++ news) → Below B w0 w' → (w.grownBy w' v.ownBlock ∧ (v'.ownBlock = v.ownBlock ∨ v'.ownBlock = some w.heap.size)) → wpList P ops Q rest (a.put o.dst v') w') : wpList P ops Q (o :: rest) a w := by
  obtain ⟨i, hi, hz0, hz1, hz2⟩ := info_parts E.info
  refine wpList_append_own_at w hgd s x t ho base e i z size bytes E.und hi hz0 hz1 hz2 E.zs E.pos v n xs hs hown ⟨g, 0, none⟩ 1 1 news hx (by rw [Nat.one_mul]; exact hl) ?_ h1 (by unfold maxLen; omega) ?_ hbase ?_
  · intro j u hj
    have hh := hnews j u hj
    have e : (⟨g, 0, none⟩ : Addr).add j = ⟨g, j, none⟩ := by unfold Addr.add; split <;> simp_all
    rw [e]; exact hh
  · have := E.small
    calc (n + 1) * bytes ≤ 100000000001 * 1024 := Nat.mul_le_mul (by omega) this
      _ ≤ 140737488355328 := by decide
  · intro v' w' hown' hg _ hblk
    exact h v' w' hown' (hB.grown hg (by omega) (fun k hk => Nat.le_trans hBb (own_block_ge hown k hk))) ⟨hg, hblk⟩
theorem own_mono {w : World} {base base' : Nat} {e : TypeId} {size : Nat} {v : Value} {n : Nat} {xs : List Value} (h : w.ownsRow base e size v n xs) (hb : base' ≤ base) : w.ownsRow base' e size v n xs := by
  refine ⟨h.1, ?_⟩
  rcases h.2 with h | ⟨g, cap, cur, h1, h2, h3⟩
  · exact Or.inl h
  · exact Or.inr ⟨g, cap, cur, h1, Nat.le_trans hb h2, h3⟩
/-- what is appended whole: nil, or so many elements at an address -/
def Src (w : World) (size : Nat) (src : Value) (m : Nat) (news : List Value) : Prop :=
  (src = .slice none 0 0 ∧ m = 0 ∧ news = []) ∨ ∃ ad c, src = .slice (some ad) m c ∧ news.length = m * size ∧ ∀ j u, news[j]? = some u → w.cell? (ad.add j) = some u
theorem addr_add (b off j : Nat) : (⟨b, off, none⟩ : Addr).add j = ⟨b, off + j, none⟩ := by
  unfold Addr.add; split <;> simp_all
theorem Src.of_own {w : World} {base : Nat} {e : TypeId} {size : Nat} {v : Value} {n : Nat} {xs : List Value} (h : w.ownsRow base e size v n xs) : Src w size v n xs := by
  have h' := h
  rcases h.2 with ⟨rfl, rfl⟩ | ⟨g, cap, cur, rfl, _⟩
  · refine Or.inl ⟨rfl, rfl, ?_⟩
    have := h.1
    simpa using this
  · refine Or.inr ⟨_, _, rfl, h.1, fun j u hj => ?_⟩
    rw [addr_add, Nat.zero_add, h'.cellAt j]
    · exact hj
    · have : j < xs.length := by
        rcases Nat.lt_or_ge j xs.length with k | k
        · exact k
        · rw [List.getElem?_eq_none k] at hj; simp at hj
      rw [← h.1]; exact this
theorem wpList_apps {P : Program} {w : World} {ops : Array Oper} {rest : List Oper} {o : Oper} {a : Act} {Q : Exit → Act → World → Prop} {t e : TypeId} {z : Value} {size bytes : Nat} (E : ElemT P t e z size bytes)
    (hgd : o.guard = none) (s x : Operand) (ho : o.op = .call { callee := .builtin .append, args := #[s, x], argTypes := #[t, t] })
    (B base : Nat) (w0 : World) (v : Value) (n : Nat) (xs : List Value) (hs : a.eval s = v) (hown : w.ownsRow base e size v n xs)
    (src : Value) (m : Nat) (news : List Value) (hx : a.eval x = src) (hsrc : Src w size src m news) (h1 : ∀ u ∈ news, u.oneCell' = true)
    (hn : n + m ≤ 100000000000) (hB : Below B w0 w) (hBb : B ≤ base) (hbase : base ≤ w.heap.size)
    (h : ∀ v' w', w'.ownsRow base e size v' (n + m) (xs ++ news) → Below B w0 w' → (w.grownBy w' v.ownBlock ∧ (v'.ownBlock = v.ownBlock ∨ v'.ownBlock = some w.heap.size)) → wpList P ops Q rest (a.put o.dst v') w') : wpList P ops Q (o :: rest) a w := by
  obtain ⟨i, hi, hz0, hz1, hz2⟩ := info_parts E.info
  rcases hsrc with ⟨rfl, rfl, rfl⟩ | ⟨ad, c, rfl, hl, hnews⟩
  · refine wpList_append_own_none hgd s x t ho base e i size E.und hi v n xs hs hown hx ?_
    exact h v w (by simpa using hown) hB ⟨World.grownBy.refl _ _, Or.inl rfl⟩
  · refine wpList_append_own_at w hgd s x t ho base e i z size bytes E.und hi hz0 hz1 hz2 E.zs E.pos v n xs hs hown ad m c news hx hl hnews h1 (by unfold maxLen; omega) ?_ hbase ?_
    · have := E.small
      calc (n + m) * bytes ≤ 100000000000 * 1024 := Nat.mul_le_mul (by omega) this
        _ ≤ 140737488355328 := by decide
    · intro v' w' hown' hg _ hblk
      exact h v' w' hown' (hB.grown hg (by omega) (fun k hk => Nat.le_trans hBb (own_block_ge hown k hk))) ⟨hg, hblk⟩
end Go.Proofs.Ytecpnlhjjmcllaa
namespace Go.Proofs.Ytecpnlhjjmcllaa
open Go.RowKit
/-- the first q words -/
def packPre (s : List Nat) (q : Nat) : List Nat := (List.range q).map fun j => leN (chunk s j)
theorem packPre_len (s : List Nat) (q : Nat) : (packPre s q).length = q := by simp [packPre]
theorem packPre_succ (s : List Nat) (q : Nat) : packPre s (q + 1) = packPre s q ++ [leN (chunk s q)] := by simp [packPre, List.range_succ]
theorem packPre_full (s : List Nat) : packPre s ((s.length + 7) / 8) = packL s := rfl
/-- the bytes from place j of a word on -/
def tailW (s : List Nat) (i j : Nat) : Nat := leN ((s.drop (i + j)).take (8 - j))
theorem tailW_8 (s : List Nat) (i : Nat) : tailW s i 8 = 0 := by simp [tailW, leN]
theorem tailW_0 (s : List Nat) (q : Nat) : tailW s (8 * q) 0 = leN (chunk s q) := by simp [tailW, chunk]
theorem tailW_in (s : List Nat) (i j : Nat) (hj : j < 8) (h : i + j < s.length) : tailW s i j = s[i + j] + 256 * tailW s i (j + 1) := by
  unfold tailW
  rw [List.drop_eq_getElem_cons h, show 8 - j = (8 - (j + 1)) + 1 from by omega, List.take_succ_cons, leN]
  rfl
theorem tailW_out (s : List Nat) (i j : Nat) (h : s.length ≤ i + j) : tailW s i j = 0 := by
  unfold tailW
  rw [List.drop_eq_nil_of_le h]; simp [leN]
theorem tailW_lt (s : List Nat) (hs : ∀ x ∈ s, x < 256) (i j : Nat) (hj : 1 ≤ j) (hj8 : j ≤ 8) : tailW s i j ≤ 72057594037927935 := by
  have h := leN_lt ((s.drop (i + j)).take (8 - j)) (fun x hx => hs x (List.mem_of_mem_drop (List.mem_of_mem_take hx)))
  have h2 : ((s.drop (i + j)).take (8 - j)).length ≤ 7 := by simp; omega
  have h3 : 256 ^ ((s.drop (i + j)).take (8 - j)).length ≤ 256 ^ 7 := Nat.pow_le_pow_right (by omega) h2
  unfold tailW
  omega
theorem elemU64 : ElemT Try.prog 34 42 (.int .u64 0) 1 8 := ⟨Try.underlying34, infoU64, rfl, by omega, by omega⟩
set_option maxHeartbeats 2000000 in
theorem rPack_c (s : ByteArray) (w : World) (hs : s.size ≤ 1000000000) :
    Calls Try.prog 54 #[.string s] w fun e w' => ∃ v, e = .returned v ∧ w'.ownsRow w.heap.size 42 1 v ((s.size + 7) / 8) (u64s (packL (bytesN s))) ∧ Below w.heap.size w w' := by
  have hlen := bytesN_len s
  have hlt := bytesN_lt s
  have hget := bytesN_get s
  generalize bytesN s = bs at *
  have HL := Lib.hid hlen
  have HG := Lib.hid hget
  have HT := Lib.hid hlt
  clear hlen hget hlt
  go_enter Try.func54, Try.ntmps54
  go_wp2
  go_loopw [3, 4] (fun v vi wr => ∃ q : Nat, 8 * q ≤ s.size + 7 ∧ vi = .int .i64 (8 * (q : Int)) ∧ wr.ownsRow w.heap.size 42 1 v q (u64s (packPre bs q)) ∧ Below w.heap.size w wr) (fun _ vi _ => s.size + 8 - (intOf vi).toNat)
  case atStart => exact ⟨0, by omega, rfl, World.ownsRow_nil _ _ _ _, Below.refl _ _⟩
  case round =>
    obtain ⟨q, hq, rfl, hown, hbel⟩ := hrel
    obtain ⟨wo, rfl⟩ : ∃ wo : World, wo = wr := ⟨_, rfl⟩
    by_cases hqs : 8 * q < s.size
    · have hd : decide (8 * (q : Int) < (s.size : Int)) = true := by simp; omega
      go_wp2
      go_loop [5, 6] (fun vu vk => ∃ j : Nat, j ≤ 8 ∧ vk = .int .i64 ((j : Int) - 1) ∧ vu = .int .u64 (tailW bs (8 * q) j)) (fun _ vk => (intOf vk + 1).toNat)
      case atStart => exact ⟨8, by omega, rfl, by rw [tailW_8]; rfl⟩
      case round =>
        obtain ⟨j, hj, rfl, rfl⟩ := hrel
        by_cases hj0 : j = 0
        · subst hj0
          rw [tailW_0]
          obtain ⟨u, hu⟩ : ∃ u, u = leN (chunk bs q) := ⟨_, rfl⟩
          rw [← hu]
          have HU := Lib.hid hu
          clear hu
          have hm : q ≤ 1000000000 := by omega
          go_wp2_with (at_builtin; refine wpList_app elemU64 rfl _ _ rfl w.heap.size w.heap.size w _ _ _ rfl (hown.alloc _) wo.heap.size [.int .u64 (u : Int)] rfl rfl (by simp) (one_int _ _) (by omega) (hbel.alloc hbel.size _) (Nat.le_refl _) (Nat.le_trans hbel.size (by simp)) ?_; intro v' w1 hown' hbel' _)
          have hown2 : w1.ownsRow w.heap.size 42 1 v' (q + 1) (u64s (packPre bs (q + 1))) := by
              rw [packPre_succ, ← HU.out]; simpa [u64s] using hown'
          clear hown' hown
          go_roundw
          case rel => exact ⟨q + 1, by omega, by congr 1, hown2, hbel'⟩
          case measure => simp [intOf]; omega
        · obtain ⟨i, rfl⟩ : ∃ i, j = i + 1 := ⟨j - 1, by omega⟩
          rw [show ((i + 1 : Nat) : Int) - 1 = (i : Int) from by omega]
          have hb := tailW_lt bs HT.out (8 * q) (i + 1) (by omega) hj
          obtain ⟨u, hu⟩ : ∃ u, u = tailW bs (8 * q) (i + 1) := ⟨_, rfl⟩
          rw [← hu] at hb ⊢
          have HU := Lib.hid hu
          clear hu
          by_cases hin : 8 * q + i < s.size
          · have hbl : (s[8 * q + i]).toNat < 256 := UInt8.toNat_lt _
            have n1 : (8 * (q : Int) + (i : Int)).toNat = 8 * q + i := by omega
            go_wp2
            go_round
            case rel => exact ⟨i, by omega, rfl, by rw [tailW_in bs (8 * q) i (by omega) (by rw [HL.out]; exact hin), HG.out _ hin (by rw [HL.out]; exact hin), ← HU.out]; congr 1; omega⟩
            case measure => simp [intOf]
          · go_wp2
            go_round
            case rel => exact ⟨i, by omega, rfl, by rw [tailW_out bs (8 * q) i (by rw [HL.out]; omega)]; have := HU.out; rw [tailW_out bs (8 * q) (i + 1) (by rw [HL.out]; omega)] at this; rw [this]; rfl⟩
            case measure => simp [intOf]
    · go_wp2
      go_ret
      have hqe : q = (s.size + 7) / 8 := by omega
      subst hqe
      exact ⟨_, rfl, by rw [← packPre_full, HL.out]; exact hown, hbel⟩
end Go.Proofs.Ytecpnlhjjmcllaa
namespace Go.Proofs.Ytecpnlhjjmcllaa
/-- byte i of words -/
def byteAt (ls : List Nat) (i : Nat) : Nat := ls.getD (i / 8) 0 / 256 ^ (i % 8) % 256
def bytesOf (ls : List Nat) (n : Nat) : List Nat := (List.range n).map (byteAt ls)
theorem bytesOf_len (ls : List Nat) (n : Nat) : (bytesOf ls n).length = n := by simp [bytesOf]
theorem byteAt_lt (ls : List Nat) (i : Nat) : byteAt ls i < 256 := Nat.mod_lt _ (by omega)
theorem leN_bytes (x : Nat) : ∀ k, leN ((List.range k).map fun i => x / 256 ^ i % 256) = x % 256 ^ k
  | 0 => by simp [leN, Nat.mod_one]
  | k + 1 => by
    rw [List.range_succ, List.map_append, leN_app, leN_bytes x k]
    simp only [List.length_map, List.length_range, List.map_cons, List.map_nil, leN, Nat.mul_zero, Nat.add_zero]
    rw [Nat.pow_succ, Nat.mod_mul]
theorem chunk_bytesOf (ls : List Nat) (n j : Nat) : chunk (bytesOf ls n) j = (List.range (min 8 (n - 8 * j))).map fun i => ls.getD j 0 / 256 ^ i % 256 := by
  apply List.ext_getElem
  · simp [chunk, bytesOf]
  · intro i h1 h2
    simp only [List.length_map, List.length_range] at h2
    simp only [chunk, bytesOf, byteAt, List.getElem_take, List.getElem_drop, List.getElem_map, List.getElem_range]
    rw [show (8 * j + i) / 8 = j from by omega, show (8 * j + i) % 8 = i from by omega]
theorem leN_chunk_bytesOf (ls : List Nat) (n j : Nat) : leN (chunk (bytesOf ls n) j) = ls.getD j 0 % 256 ^ (min 8 (n - 8 * j)) := by
  rw [chunk_bytesOf, leN_bytes]
theorem mod_of_zero (x k : Nat) : ∀ d, (∀ i, k ≤ i → i < k + d → x / 256 ^ i % 256 = 0) → x % 256 ^ (k + d) = x % 256 ^ k
  | 0, _ => rfl
  | d + 1, h => by
    rw [← Nat.add_assoc, Nat.pow_succ, Nat.mod_mul, h (k + d) (by omega) (by omega), Nat.mul_zero, Nat.add_zero]
    exact mod_of_zero x k d (fun i h1 h2 => h i h1 (by omega))
/-- the words are what their first n bytes pack to -/
def fullN (ls : List Nat) (n : Nat) : Prop := 8 * ls.length < n + 8 ∧ n ≤ 8 * ls.length ∧ ∀ i, n ≤ i → i < 8 * ls.length → byteAt ls i = 0
theorem pack_bytesOf (ls : List Nat) (n : Nat) (hl : ∀ x ∈ ls, x < 18446744073709551616) (hn : n ≤ 8 * ls.length) : packL (bytesOf ls n) = ls ↔ fullN ls n := by
  constructor
  · intro h
    have hlen := congrArg List.length h
    rw [packL_len, bytesOf_len] at hlen
    refine ⟨by omega, hn, fun i h1 h2 => ?_⟩
    have hj : i / 8 < ls.length := by omega
    have hx : ls[i / 8] = leN (chunk (bytesOf ls n) (i / 8)) := by
      have : (packL (bytesOf ls n))[i / 8]? = some (leN (chunk (bytesOf ls n) (i / 8))) := by
        simp only [packL, List.getElem?_map]
        rw [List.getElem?_range (by rw [bytesOf_len]; omega)]; rfl
      rw [h, List.getElem?_eq_getElem hj] at this
      exact Option.some.inj this
    rw [leN_chunk_bytesOf] at hx
    have hd : ls.getD (i / 8) 0 = ls[i / 8] := by simp [List.getD, hj]
    unfold byteAt
    rw [hd, hx]
    have hlt : ls.getD (i / 8) 0 % 256 ^ min 8 (n - 8 * (i / 8)) < 256 ^ (i % 8) := by
      refine Nat.lt_of_lt_of_le (Nat.mod_lt _ (Nat.pow_pos (by omega))) (Nat.pow_le_pow_right (by omega) (by omega))
    rw [Nat.div_eq_of_lt hlt]
  · rintro ⟨h1, h2, h3⟩
    apply List.ext_getElem
    · rw [packL_len, bytesOf_len]; omega
    · intro j hj1 hj2
      simp only [packL, List.getElem_map, List.getElem_range]
      rw [leN_chunk_bytesOf]
      have hd : ls.getD j 0 = ls[j] := by simp [List.getD, hj2]
      rw [hd]
      have hx : ls[j] < 256 ^ 8 := hl _ (List.getElem_mem hj2)
      by_cases hfull : 8 ≤ n - 8 * j
      · rw [Nat.min_eq_left hfull, Nat.mod_eq_of_lt hx]
      · rw [Nat.min_eq_right (by omega)]
        have hm := mod_of_zero ls[j] (n - 8 * j) (8 - (n - 8 * j)) (fun i k1 k2 => by
          have := h3 (8 * j + i) (by omega) (by omega)
          unfold byteAt at this
          rwa [show (8 * j + i) / 8 = j from by omega, show (8 * j + i) % 8 = i from by omega, hd] at this)
        rw [show n - 8 * j + (8 - (n - 8 * j)) = 8 from by omega, Nat.mod_eq_of_lt hx] at hm
        exact hm.symm
theorem leN_get : ∀ (l : List Nat) (i : Nat), (∀ x ∈ l, x < 256) → leN l / 256 ^ i % 256 = l.getD i 0
  | [], i, _ => by simp [leN]
  | x :: l, 0, h => by
    have := h x (by simp)
    simp only [leN, Nat.pow_zero, Nat.div_one, List.getD_cons_zero]
    omega
  | x :: l, i + 1, h => by
    have hx := h x (by simp)
    have ih := leN_get l i (fun y hy => h y (by simp [hy]))
    simp only [leN, List.getD_cons_succ]
    rw [Nat.pow_succ, Nat.mul_comm (256 ^ i) 256, ← Nat.div_div_eq_div_mul, show (x + 256 * leN l) / 256 = leN l from by omega]
    exact ih
theorem bytes_pack (bs : List Nat) (h : ∀ x ∈ bs, x < 256) : bytesOf (packL bs) bs.length = bs := by
  apply List.ext_getElem
  · simp [bytesOf]
  · intro i h1 h2
    simp only [bytesOf, List.getElem_map, List.getElem_range, byteAt]
    have hj : i / 8 < (packL bs).length := by rw [packL_len]; omega
    have e : (packL bs).getD (i / 8) 0 = leN (chunk bs (i / 8)) := by
      simp only [List.getD, List.getElem?_eq_getElem hj, Option.getD_some]
      simp [packL]
    rw [e, leN_get _ _ (fun x hx => h x (chunk_mem hx))]
    simp only [chunk, List.getD, List.getElem?_take, List.getElem?_drop]
    rw [if_pos (by omega), show 8 * (i / 8) + i % 8 = i from by omega]
    simp [h2]
theorem packL_lt (bs : List Nat) (h : ∀ x ∈ bs, x < 256) : ∀ x ∈ packL bs, x < 18446744073709551616 := by
  intro x hx
  simp only [packL, List.mem_map] at hx
  obtain ⟨j, _, rfl⟩ := hx
  have h1 := leN_lt (chunk bs j) (fun y hy => h y (chunk_mem hy))
  have h2 : (chunk bs j).length ≤ 8 := by simp [chunk]; omega
  have h3 : 256 ^ (chunk bs j).length ≤ 256 ^ 8 := Nat.pow_le_pow_right (by omega) h2
  omega
/-- bytes as a text -/
def strN (b : List Nat) : ByteArray := strOfNums (b.map fun x : Nat => (x : Int))
theorem strN_size (b : List Nat) : (strN b).size = b.length := by simp [strN, strOfNums_size]
theorem bytesN_strN (b : List Nat) (h : ∀ x ∈ b, x < 256) : bytesN (strN b) = b := by
  unfold bytesN strN
  rw [strOfNums_data, List.map_map, List.map_map]
  conv => rhs; rw [← List.map_id b]
  apply List.map_congr_left
  intro x hx
  have := h x hx
  simp; omega
theorem strN_bytesN (s : ByteArray) : strN (bytesN s) = s := by
  apply Go.WideShapes.bytes_inj
  unfold bytesN strN
  rw [strOfNums_data, List.map_map, List.map_map]
  conv => rhs; rw [← List.map_id s.data.toList]
  apply List.map_congr_left
  intro x _
  simp
end Go.Proofs.Ytecpnlhjjmcllaa
namespace Go.Proofs.Ytecpnlhjjmcllaa
open Go.RowKit
theorem infoU8 : (Try.prog.info? 5).map (fun i => (i.zero, i.size, i.bytes)) = some (some (.int .u8 0), 1, 1) := by kernel_rfl
def u8s (l : List Nat) : List Value := l.map fun n : Nat => Value.int .u8 (n : Int)
/-- the bytes that are laid when k are read -/
def bytesTo (ls : List Nat) (n k : Nat) : List Nat := (List.range n).map fun i => if i < k then byteAt ls i else 0
theorem bytesTo_0 (ls : List Nat) (n : Nat) : bytesTo ls n 0 = List.replicate n 0 := by
  simp [bytesTo, List.eq_replicate_iff]
theorem bytesTo_full (ls : List Nat) (n k : Nat) (h : n ≤ k) : bytesTo ls n k = bytesOf ls n := by
  simp only [bytesTo, bytesOf]
  apply List.map_congr_left
  intro i hi
  simp at hi
  rw [if_pos (by omega)]
theorem bytesTo_step (ls : List Nat) (n k : Nat) : bytesTo ls n (k + 1) = (bytesTo ls n k).set k (byteAt ls k) := by
  apply List.ext_getElem
  · simp [bytesTo]
  · intro j h1 h2
    rw [List.getElem_set]
    simp only [bytesTo, List.getElem_map, List.getElem_range]
    by_cases e : k = j
    · subst e; simp
    · rw [if_neg e]
      by_cases hj : j < k
      · rw [if_pos hj, if_pos (by omega)]
      · rw [if_neg hj, if_neg (by omega)]
theorem byte_shift (ls : List Nat) (k : Nat) : IntKind.u8.wrap (((ls.getD (k / 8) 0 : Nat) : Int) / 2 ^ (8 * (k % 8))) = (byteAt ls k : Nat) := by
  have hp : (256 : Nat) ^ (k % 8) = 2 ^ (8 * (k % 8)) := by rw [Nat.pow_mul]
  have hc : ((2 : Int) ^ (8 * (k % 8))) = ((2 ^ (8 * (k % 8)) : Nat) : Int) := by simp
  unfold byteAt
  rw [IntKind.wrap_u8', hc, hp]
  generalize (2 : Nat) ^ (8 * (k % 8)) = q
  rfl
def unpS (ok : Bool) (ls : List Nat) (n : Nat) : ByteArray := if ok then strN (bytesOf ls n) else ⟨#[]⟩
theorem ret_si {a b : ByteArray} {k : IntKind} {c d : Int} (h : a = b) (h' : c = d) : Ending.returned (.tuple #[.string a, .int k c]) = .returned (.tuple #[.string b, .int k d]) := by rw [h, h']
theorem ret_sb {a b : ByteArray} {c d : Bool} (h : a = b) (h' : c = d) : Ending.returned (.tuple #[.string a, .bool c]) = .returned (.tuple #[.string b, .bool d]) := by rw [h, h']
theorem u8s_set (l : List Nat) (j x : Nat) : (u8s l).set j (.int .u8 (x : Int)) = u8s (l.set j x) := by
  unfold u8s; rw [List.map_set]
theorem conv_own {w : World} {base g n cap : Nat} {l : List Nat} (hown : w.ownsRow base 5 1 (.slice (some ⟨g, 0, none⟩) n cap) n (u8s l)) :
    (convert 105 9 (.slice (some ⟨g, 0, none⟩) n cap)).run Try.prog w = .ok (.string (strN l)) w := by
  have hl : l.length = n := by have := hown.1; simpa [u8s] using this
  refine run_convert_bytes_arg _ 105 5 (by kernel_rfl) (by kernel_rfl) g 0 n cap (l.map fun x : Nat => (x : Int)) (by simpa using hl) (fun i hi => ?_) 9 (by kernel_rfl)
  rw [Nat.zero_add, hown.cellAt i (by omega)]
  simp [u8s, List.getD, hl ▸ hi]
set_option maxHeartbeats 1000000 in
set_option maxRecDepth 100000 in
theorem Unpack_run (a : Option Addr) (m ca : Nat) (n : Nat) (ls : List Nat) (w : World) (ha : SlAt w a 1 m (u64s ls)) (hm : m ≤ 1000000) (h1 : n ≤ 8 * m) (h2 : 8 * m < n + 8) (Hf : Bool) (hf : Hf = true ↔ fullN ls n) :
    Calls Try.prog 52 #[.slice a m ca, .int .i64 n] w fun e w' => e = .returned (.tuple #[.string (unpS Hf ls n), .int .i64 (okE Hf)]) ∧ Below w.heap.size w w' := by
  have lx : ls.length = m := by have := ha.len; simpa [u64s_len] using this
  have LX := Lib.hid lx
  clear lx
  obtain ⟨i0, hi, hz0, hz1, hz2⟩ := info_parts infoU8
  have hb8 : i0.bytes * n ≤ 281474976710656 := by rw [hz2]; omega
  have HZ0 := Lib.hid hz0
  have HZ1 := Lib.hid hz1
  have HI := Lib.hid hi
  clear hz0 hz1 hi hz2
  have HF := Lib.hid hf
  clear hf
  have d1 : decide ((n : Int) < 0) = false := by simp
  have d2 : decide (8 * (m : Int) < (n : Int)) = false := by simp; omega
  have d3 : decide ((n : Int) ≤ 8 * ((m : Int) - 1)) = false := by simp; omega
  go_enter Try.func52, Try.ntmps52
  go_wp2_with (at_make; refine wpList_make_full _ rfl _ _ 105 rfl w.heap.size 5 i0 (.int .u8 0) 1 Try.underlying105 HI.out HZ0.out HZ1.out .i64 .i64 _ _ n rfl rfl (by omega) (by omega) hb8 (by unfold maxLen; omega) (Nat.le_refl _) ?_; intro w1 hown hgrow)
  have hown0 : w1.ownsRow w.heap.size 5 1 (.slice (some ⟨w.heap.size, 0, none⟩) n n) n (u8s (bytesTo ls n 0)) := by
    rw [bytesTo_0]
    have e : (madeCells (Value.int IntKind.u8 0).cells (n * 1)).toList = u8s (List.replicate n 0) := by
      rw [Nat.mul_one]; exact (toList_madeCells_one _ _).trans (by simp [u8s])
    rw [e] at hown; exact hown
  have hbel0 : Below w.heap.size w w1 := (Below.refl _ _).grown hgrow (Nat.le_refl _) (by simp)
  clear hown hgrow
  go_loopw [31] (fun vi wr => ∃ k : Nat, k ≤ 8 * m ∧ vi = .int .i64 k ∧ wr.ownsRow w.heap.size 5 1 (.slice (some ⟨w.heap.size, 0, none⟩) n n) n (u8s (bytesTo ls n k)) ∧ Below w.heap.size w wr ∧ ∀ i, n ≤ i → i < k → byteAt ls i = 0) (fun vi _ => 8 * m - (intOf vi).toNat)
  case atStart => exact ⟨0, Nat.zero_le _, rfl, hown0, hbel0, fun i _ h => by omega⟩
  case round =>
    obtain ⟨k, hk, rfl, hown, hbel, hzero⟩ := hrel
    have HZ := Lib.hid hzero
    clear hzero
    by_cases hkm : k < 8 * m
    · obtain ⟨ba, oa, ea, hca⟩ := (ha.below hbel).get (by omega)
      subst ea
      have c1 : wr.cell? ⟨ba, oa + k / 8, none⟩ = some (.int .u64 (ls.getD (k / 8) 0 : Nat)) := by
        rw [hca (k / 8) (by omega)]
        have : k / 8 < ls.length := by rw [LX.out]; omega
        simp [u64s, this]
      have hsh := byte_shift ls k
      have hby := byteAt_lt ls k
      obtain ⟨x, hx⟩ : ∃ x, x = ls.getD (k / 8) 0 := ⟨_, rfl⟩
      rw [← hx] at c1 hsh
      obtain ⟨c, hc⟩ : ∃ c, c = byteAt ls k := ⟨_, rfl⟩
      rw [← hc] at hsh hby
      have HC := Lib.hid hc
      clear hx hc hca
      have i1 : (0 : Int) ≤ (k : Int) / 8 := by omega
      have i2 : (k : Int) / 8 < (m : Int) := by omega
      by_cases hkn : k < n
      · have hcell : wr.cell? ⟨w.heap.size, k, none⟩ = some (.int .u8 0) := by
          rw [hown.cellAt k (by omega)]
          simp [u8s, bytesTo, hkn]
        have hfr : wr.frozen? ⟨w.heap.size, k, none⟩ = false := hown.frozenAt _
        go_wp2
        go_roundw
        case rel =>
          have hst := hown.stored k (.int .u8 (c : Int))
          refine ⟨k + 1, by omega, by go_num, ?_, hbel.grown hst.2 hbel.size (fun j hj => by simp at hj; omega), fun i h1 h2 => by omega⟩
          have h1 := hst.1
          rw [u8s_set, HC.out, ← bytesTo_step] at h1
          rw [HC.out]
          exact h1
        case measure => simp [intOf]; omega
      · go_wp2
        · have hne : ((c : Int) != 0) = true := by assumption
          have hne' : c ≠ 0 := by rw [bne_iff_ne] at hne; omega
          go_ret2
          have hff : Hf = false := by
            cases hh : Hf
            · rfl
            · exact absurd ((HF.out.1 hh).2.2 k (by omega) (by rw [LX.out]; exact hkm)) (by rw [← HC.out]; exact hne')
          exact ⟨ret_si (by rw [hff]; rfl) (by rw [hff]; rfl), hbel⟩
        · have hne : ((c : Int) != 0) = false := by assumption
          have hne' : c = 0 := by simp at hne; omega
          go_roundw
          case rel =>
            refine ⟨k + 1, by omega, by go_num, ?_, hbel, fun i h1 h2 => ?_⟩
            · rw [bytesTo_full _ _ _ (by omega)]; rw [bytesTo_full _ _ _ (by omega)] at hown; exact hown
            · by_cases e : i = k
              · rw [e, ← HC.out]; exact hne'
              · exact HZ.out i h1 (by omega)
          case measure => simp [intOf]; omega
    · have hke : k = 8 * m := by omega
      rw [bytesTo_full _ _ _ (by omega)] at hown
      have hcv := conv_own hown
      have HK := Lib.hid hke
      clear hke
      go_wp2
      go_ret2
      have hff : Hf = true := HF.out.2 ⟨by rw [LX.out]; omega, by rw [LX.out]; omega, fun i h1 h2 => HZ.out i h1 (by rw [LX.out] at h2; omega)⟩
      exact ⟨ret_si (by rw [hff]; rfl) (by rw [hff]; rfl), hbel⟩
end Go.Proofs.Ytecpnlhjjmcllaa
namespace Go.Proofs.Ytecpnlhjjmcllaa
open Go.RowKit
set_option maxHeartbeats 1000000 in
theorem Unpack_no (a : Option Addr) (m ca : Nat) (n : Int) (w : World) (hm : m ≤ 1000000) (h : n < 0 ∨ 8 * (m : Int) < n ∨ n ≤ 8 * ((m : Int) - 1)) :
    Calls Try.prog 52 #[.slice a m ca, .int .i64 n] w fun e w' => e = .returned (.tuple #[.string ⟨#[]⟩, .int .i64 2]) ∧ w = w' := by
  by_cases h1 : n < 0
  · clear h
    go_enter Try.func52, Try.ntmps52
    go_wp2
    go_ret2
    exact ⟨rfl, rfl⟩
  · by_cases h2 : 8 * (m : Int) < n
    · clear h
      go_enter Try.func52, Try.ntmps52
      go_wp2
      go_ret2
      exact ⟨rfl, rfl⟩
    · have h3 : n ≤ 8 * ((m : Int) - 1) := by omega
      clear h
      go_enter Try.func52, Try.ntmps52
      go_wp2
      go_ret2
      exact ⟨rfl, rfl⟩
theorem elemU8 : ElemT Try.prog 105 5 (.int .u8 0) 1 1 := ⟨Try.underlying105, infoU8, rfl, by omega, by omega⟩
theorem conv_own_any {w : World} {base n : Nat} {v : Value} {l : List Nat} (hown : w.ownsRow base 5 1 v n (u8s l)) :
    (convert 105 9 v).run Try.prog w = .ok (.string (strN l)) w := by
  have h' := hown
  rcases hown.2 with ⟨rfl, rfl⟩ | ⟨g, cap, cur, rfl, _⟩
  · have hl : l = [] := by have := hown.1; simpa [u8s] using this
    subst hl
    exact run_convert_bytes_nil w 105 5 (by kernel_rfl) (by kernel_rfl) 0 0 9 (by kernel_rfl)
  · exact conv_own h'
theorem bytesOf_succ (ls : List Nat) (k : Nat) : bytesOf ls (k + 1) = bytesOf ls k ++ [byteAt ls k] := by simp [bytesOf, List.range_succ]
end Go.Proofs.Ytecpnlhjjmcllaa
namespace Go.Proofs.Ytecpnlhjjmcllaa
open Go.RowKit
section
variable {P : Program} {n : Nat} {al : Sl} {M : Mem} {o : Oper} {K : AV → Mem → Prop}
def bts (xs : List Int) : List (List AV) := xs.map fun b => [.val (.int .u8 b)]
theorem bts_flat (xs : List Int) : (bts xs).flatten = xs.map fun b => AV.val (.int .u8 b) := by
  induction xs with
  | nil => rfl
  | cons x xs ih => unfold bts at *; rw [List.map_cons, List.flatten_cons, ih]; rfl
theorem rels_vals {F : EH} : ∀ {vs us : List Value}, Rels F (vs.map AV.val) us → us = vs
  | [], us, h => by cases h; rfl
  | v :: vs, us, h => by
    cases h with
    | cons h hs => cases h; rw [rels_vals hs]
theorem op_bytestr {x : Operand} {t t' e : TypeId} {v : AV} {xs : List Int} (ho : o.op = .convert t t' x) (ht : P.underlying t = some (.slice e)) (he : P.underlying e = some (.int .u8)) (ht' : P.underlying t' = some .string) (hx : al.ev x = some v) (hv : IsSeq v 1 (bts xs)) (h0 : xs ≠ []) (q : K (.val (.string (strOfNums xs))) M) : OpT P o al M K :=
  OpT.plain fun n B F Mf ac w hi hs => by
    have h := hv.rel (hs.ev hx)
    generalize hu : ac.eval x = u at h
    generalize hes : bts xs = es at h
    cases h with
    | seq0 _ ao cap _ => exact absurd (by simpa [bts] using hes) h0
    | seq b off cap hm hn hl h h1 hcq =>
      subst hes
      rw [bts_flat, show (xs.map fun b => AV.val (.int .u8 b)) = (xs.map (Value.int .u8)).map AV.val from by simp] at h
      have := rels_vals h
      subst this
      have hlen : (bts xs).length = xs.length := by simp [bts]
      refine ⟨_, _, ?_, q, .val _⟩
      have := run_convert_bytes_arg (P := P) w t e ht he b off xs.length cap xs rfl (fun i hi' => hi.fix _ _ _ (hl i _ (by simp [hi']))) t' ht'
      simp [execOp, ho, hu, hlen, this]
theorem op_beqlc {x y : Operand} {t t' : TypeId} {a b : Bool} (ho : o.op = .binOp .eql t x y t') (ht : P.underlying t = some .bool) (hx : al.ev x = some (.val (.bool a))) (hy : al.ev y = some (.val (.bool b))) (q : ∀ c : Bool, (c = true ↔ a = b) → K (.val (.bool c)) M) : OpT P o al M K :=
  op_beql ho ht hx hy (q _ (by simp))
theorem op_bneqc {x y : Operand} {t t' : TypeId} {a b : Bool} (ho : o.op = .binOp .neq t x y t') (ht : P.underlying t = some .bool) (hx : al.ev x = some (.val (.bool a))) (hy : al.ev y = some (.val (.bool b))) (q : ∀ c : Bool, (c = true ↔ a ≠ b) → K (.val (.bool c)) M) : OpT P o al M K :=
  op_bneq ho ht hx hy (q _ (by simp))
end
end Go.Proofs.Ytecpnlhjjmcllaa
namespace Go.Proofs.Ytecpnlhjjmcllaa
open Go.RowKit
theorem ones_map {α : Type} (f : α → Value) (h : ∀ x, (f x).oneCell' = true) (l : List α) : Ones (l.map f) := fun v hv => by
  obtain ⟨x, _, rfl⟩ := List.mem_map.1 hv
  exact h x
theorem flat_ones : ∀ l : List Value, (l.map fun x => [AV.val x]).flatten = l.map AV.val
  | [] => rfl
  | x :: l => by simp [flat_ones l]
/-- a contract of the model's own kind whose answer is a slice of the call's own -/
theorem OCall.of_calls {P : Program} {f : FuncId} {vs : List Value} {e : TypeId} {n : Nat} {xs : List Value} (he : Enters P f) (h1 : Ones xs) (hn : xs.length = n) (hm : n ≤ maxLen)
    (h : ∀ w, Calls P f vs.toArray w fun ee w' => ∃ v, ee = .returned v ∧ w'.ownsRow w.heap.size e 1 v n xs ∧ Below w.heap.size w w') : OCall P f (vs.map AV.val) e 1 (xs.map fun x => [.val x]) := by
  refine ⟨he, fun B F Mf w us hi hr => ?_⟩
  have e0 : us = vs := by
    have key : ∀ (vs us : List Value), Rels F (vs.map AV.val) us → us = vs := by
      intro vs
      induction vs with
      | nil => intro us h; cases h; rfl
      | cons v vs ih =>
        intro us h
        cases h with
        | cons h hs => cases h; rw [ih _ hs]
    exact key vs us hr
  subst e0
  refine (h w).mono ?_
  rintro ee w' ⟨v, rfl, hown, hb⟩
  have hk := hi.kept hb
  have hg : ∀ g, v.ownBlock = some g → w.heap.size ≤ g := by
    intro g hg
    rcases hown.2 with ⟨rfl, _⟩ | ⟨g', cap, cur, rfl, hge, _⟩
    · simp [Value.ownBlock] at hg
    · simp [Value.ownBlock] at hg; omega
  have hF : ∀ g i, v.ownBlock = some g → F g i = none := fun g i q => hi.dom (hg g q)
  have hext : Ext F (F.grow v.ownBlock xs) := by
    intro b j x h
    unfold EH.grow
    split
    · rename_i hh
      rw [hF b j hh.1.symm] at h; cases h
    · exact h
  have hfix : ∀ b i x, (F.grow v.ownBlock xs) b i = some x → w'.cell? ⟨b, i, none⟩ = some x := by
    intro b j x h
    unfold EH.grow at h
    split at h
    · rename_i hh
      obtain ⟨hb', hj⟩ := hh
      rcases hown.2 with ⟨rfl, _⟩ | ⟨g, cap, cur, rfl, _⟩
      · simp [Value.ownBlock] at hb'
      · simp [Value.ownBlock] at hb'
        subst hb'
        rw [hown.cellAt j (by rw [← hown.1]; exact hj)]; exact h
    · exact hk.fix b j x h
  refine ⟨v, .own v 1 (xs.map fun x => [.val x]), [.own e 1 v], F.grow v.ownBlock xs, rfl, ⟨v, rfl, rfl⟩, ?_, hext, ?_, hb.mono hi.base⟩
  · refine .own v ?_
    have hwid : ∀ z ∈ xs.map (fun x => [AV.val x]), z.length = 1 := fun z hz => by obtain ⟨x, _, rfl⟩ := List.mem_map.1 hz; rfl
    rcases hown.2 with ⟨rfl, h0⟩ | ⟨g, cap, cur, rfl, _, _, hnc, hcm, _⟩
    · have : xs = [] := List.eq_nil_of_length_eq_zero (by omega)
      subst this
      exact .seq0 1 none 0 (fun _ => rfl)
    · have hl : (xs.map fun x => [AV.val x]).length = n := by simpa using hn
      have key := Rel.seq (F := F.grow (Value.slice (some ⟨g, 0, none⟩) n cap).ownBlock xs) (m := 1) (es := xs.map fun x => [AV.val x]) (vs := xs) g 0 cap hwid (by rw [hl]; exact hm) (fun j x hx => by
        unfold EH.grow
        rw [if_pos ⟨by simp [Value.ownBlock], by simpa using get_lt hx⟩, Nat.zero_add]; exact hx) (by rw [flat_ones]; exact Rels.vals _ xs) h1 (by rw [hl]; exact hnc)
      rw [hl] at key
      exact key
  · refine ⟨hk.base, hfix, fun r hr => ?_, List.pairwise_cons.2 ⟨fun r hr => ?_, hi.far⟩⟩
    · rcases List.mem_cons.1 hr with rfl | hr
      · refine ⟨n, xs, ⟨hown.1, ?_⟩, fun g i q hi' => ?_⟩
        · rcases hown.2 with q | ⟨g, cap, cur, q1, q2, q3⟩
          · exact .inl q
          · exact .inr ⟨g, cap, cur, q1, Nat.le_trans hi.base q2, q3⟩
        · unfold EH.grow
          rw [if_neg (by rintro ⟨_, z⟩; omega)]
          exact hF g i q
      · refine (hk.ok r hr).stay hext (fun b hb' => ⟨rfl, fun i => ?_⟩)
        unfold EH.grow
        rw [if_neg]
        rintro ⟨z, _⟩
        have := (hi.ok r hr).lt hb'
        have := hg b z.symm
        omega
    · show Far (.own e 1 v) r
      cases q : v.ownBlock with
      | none => exact .inl q
      | some g =>
        right
        show v.ownBlock ≠ r.blk
        rw [q]
        intro z
        have := (hi.ok r hr).lt z.symm
        have := hg g q
        omega
def ivN (n : Nat) : List AV := [.val (.int .u64 (n : Int))]
theorem Pack_o (s : ByteArray) (hs : s.size ≤ 1000000000) : OCall Try.prog 58 [.val (.string s)] 42 1 ((packL (bytesN s)).map ivN) := by
  have := OCall.of_calls (vs := [.string s]) (xs := u64s (packL (bytesN s))) (n := (s.size + 7) / 8) (enters_of Try.func58 (by kernel_rfl) rfl) (ones_map _ (fun _ => rfl) _) (by rw [u64s_len, packL_len, bytesN_len]) (by unfold maxLen; omega) (fun w => Pack_c s w hs)
  rw [u64s, List.map_map] at this
  exact this
theorem rPack_o (s : ByteArray) (hs : s.size ≤ 1000000000) : OCall Try.prog 54 [.val (.string s)] 42 1 ((packL (bytesN s)).map ivN) := by
  have := OCall.of_calls (vs := [.string s]) (xs := u64s (packL (bytesN s))) (n := (s.size + 7) / 8) (enters_of Try.func54 (by kernel_rfl) rfl) (ones_map _ (fun _ => rfl) _) (by rw [u64s_len, packL_len, bytesN_len]) (by unfold maxLen; omega) (fun w => rPack_c s w hs)
  rw [u64s, List.map_map] at this
  exact this
/-- whether so many bytes of words are a text, and which -/
def tOk (ls : List Nat) (n : Int) : Bool := decide (0 ≤ n) && decide (n ≤ 8 * (ls.length : Int)) && (packL (bytesOf ls n.toNat) == ls)
def tS (ls : List Nat) (n : Int) : ByteArray := unpS (tOk ls n) ls n.toNat
theorem Unpack_any (a : Option Addr) (m ca : Nat) (n : Int) (ls : List Nat) (w : World) (ha : SlAt w a 1 m (u64s ls)) (hu : ∀ x ∈ ls, x < 18446744073709551616) (hm : m ≤ 1000000) :
    Calls Try.prog 52 #[.slice a m ca, .int .i64 n] w fun e w' => e = .returned (.tuple #[.string (tS ls n), .int .i64 (okE (tOk ls n))]) ∧ Below w.heap.size w w' := by
  have lx : ls.length = m := by have := ha.len; simpa [u64s_len] using this
  by_cases h : n < 0 ∨ 8 * (m : Int) < n ∨ n ≤ 8 * ((m : Int) - 1)
  · have hno : tOk ls n = false := by
      unfold tOk
      by_cases h0 : n < 0 ∨ 8 * (m : Int) < n
      · rw [lx]
        have : (decide (0 ≤ n) && decide (n ≤ 8 * (m : Int))) = false := by simp; omega
        rw [this]; rfl
      · have hf : ¬ packL (bytesOf ls n.toNat) = ls := by
          rw [pack_bytesOf ls n.toNat hu (by rw [lx]; omega)]
          rintro ⟨k1, _⟩
          rw [lx] at k1
          omega
        rw [beq_eq_false_iff_ne.2 hf]; simp
    refine (Unpack_no a m ca n w hm h).mono ?_
    rintro e w' ⟨rfl, rfl⟩
    exact ⟨by unfold tS; rw [hno]; rfl, Below.refl _ _⟩
  · obtain ⟨k, rfl⟩ : ∃ k : Nat, n = k := ⟨n.toNat, by omega⟩
    have hok : tOk ls k = (packL (bytesOf ls k) == ls) := by
      unfold tOk
      rw [lx, Int.toNat_natCast]
      have : (decide ((0 : Int) ≤ k) && decide ((k : Int) ≤ 8 * (m : Int))) = true := by simp; omega
      rw [this]; rfl
    refine (Unpack_run a m ca k ls w ha hm (by omega) (by omega) (packL (bytesOf ls k) == ls) ?_).mono ?_
    · rw [beq_iff_eq]; exact pack_bytesOf ls k hu (by rw [lx]; omega)
    · rintro e w' ⟨rfl, hb⟩
      exact ⟨by unfold tS; rw [hok, Int.toNat_natCast], hb⟩
theorem tOk_pack (s : ByteArray) : tOk (packL (bytesN s)) (s.size : Int) = true ∧ tS (packL (bytesN s)) (s.size : Int) = s := by
  have h1 : bytesOf (packL (bytesN s)) s.size = bytesN s := by
    have := bytes_pack (bytesN s) (bytesN_lt s)
    rwa [bytesN_len] at this
  have hok : tOk (packL (bytesN s)) (s.size : Int) = true := by
    unfold tOk
    rw [packL_len, bytesN_len, Int.toNat_natCast, h1]
    simp; omega
  refine ⟨hok, ?_⟩
  unfold tS
  rw [hok, Int.toNat_natCast]
  unfold unpS
  rw [if_pos rfl, h1, strN_bytesN]
theorem Unpack_p (ls : List Nat) (n : Int) (hu : ∀ x ∈ ls, x < 18446744073709551616) (hm : ls.length ≤ 1000000) : PCall Try.prog 52 [.seq 1 (ls.map ivN), .val (.int .i64 n)] (.tup [.val (.string (tS ls n)), .val (.int .i64 (okE (tOk ls n)))]) := by
  refine ⟨enters_of Try.func52 (by kernel_rfl) rfl, fun B F Mf w us hi hr => ?_⟩
  cases hr with
  | cons h1 hs =>
    rename_i u1 _
    cases hs with
    | cons h2 hs2 =>
      cases hs2
      cases h2
      have hsl : ∃ (ao : Option Addr) (cap : Nat), u1 = Value.slice ao ls.length cap ∧ SlAt w ao 1 ls.length (u64s ls) := by
        generalize hes : ls.map ivN = es at h1
        cases h1 with
        | seq0 _ ao cap _ =>
          have : ls = [] := by simpa using hes
          subst this
          exact ⟨ao, cap, rfl, SlAt.nil w ao 1⟩
        | seq b off cap hm hn hl h h1 hc =>
          subst hes
          rename_i vs
          have e : vs = u64s ls := by
            have e1 : (ls.map ivN).flatten = (u64s ls).map AV.val := by unfold u64s ivN; rw [← flat_ones, List.map_map]; rfl
            rw [e1] at h
            exact rels_vals h
          subst e
          refine ⟨some ⟨b, off, none⟩, cap, by simp, by simp [u64s_len], .inr ⟨b, off, rfl, fun j hj => ?_⟩⟩
          have hj2 : j < (u64s ls).length := by simpa [u64s_len] using hj
          rw [List.getElem?_eq_getElem hj2]
          exact hi.fix _ _ _ (hl j _ (List.getElem?_eq_getElem hj2))
      obtain ⟨ao, cap, rfl, ha⟩ := hsl
      refine (Unpack_any ao ls.length cap n ls w ha hu hm).mono ?_
      rintro e w' ⟨rfl, hb⟩
      refine ⟨_, _, [], F, rfl, ⟨rfl, rfl⟩, ?_, Ext.refl F, hi.kept hb, hb.mono hi.base⟩
      exact .tup (.cons (.val _) (.cons (.val _) .nil))
end Go.Proofs.Ytecpnlhjjmcllaa
namespace Go.Proofs.Ytecpnlhjjmcllaa
def need (n : Int) : Int := (max n 0 + 7) / 8 + 2
def txt (s : ByteArray) : List Int := intW s.size :: (packL (bytesN s)).map (fun n : Nat => (n : Int))
def textO (s : ByteArray) : HO := ⟨3, 0, txt s⟩
/-- are an object's parts such that its words are told? -/
def wordsOk (o : HO) : Prop := o.kind = 3 ∧ o.tag = 0 ∧ isI (o.parts.headD 0) = true ∧ 0 ≤ toI (o.parts.headD 0) ∧ toI (o.parts.headD 0) ≤ (o.parts.length - 1 : Int) * 8 ∧ need (toI (o.parts.headD 0)) = o.parts.length + 1
def natsOf (l : List Int) : List Nat := l.map Int.toNat
theorem natsOf_cast {l : List Int} (h : ∀ x ∈ l, 0 ≤ x) : (natsOf l).map (fun n : Nat => (n : Int)) = l := by
  unfold natsOf
  rw [List.map_map]
  conv => rhs; rw [← List.map_id l]
  apply List.map_congr_left
  intro x hx
  have := h x hx
  simp; omega
theorem natsOf_map (l : List Nat) : natsOf (l.map (fun n : Nat => (n : Int))) = l := by
  unfold natsOf
  rw [List.map_map]
  conv => rhs; rw [← List.map_id l]
  apply List.map_congr_left
  intro x _
  simp
theorem toI_intW (n : Nat) (h : n < 4611686018427387904) : toI (intW n) = n ∧ isI (intW n) = true := by
  have := back_int n
  refine ⟨?_, this.2⟩
  rw [this.1]; unfold W63; omega
theorem intW_toI {w : Int} (h0 : 0 ≤ w) (h1 : w ≤ 18446744073709551615) (h : isI w = true) : intW (toI w) = w := by
  unfold isI at h
  have h : w % 2 = 1 := by simpa using h
  unfold intW toI
  rw [if_pos h]
  unfold R63 W63
  omega
theorem txt_len (s : ByteArray) : (txt s).length = (s.size + 7) / 8 + 1 := by simp [txt, packL_len, bytesN_len]
theorem intW_bounds (n : Int) : 0 ≤ intW n ∧ intW n ≤ 18446744073709551615 := ⟨intW_lo n, intW_hi n⟩
theorem txt_bounds (s : ByteArray) : ∀ x ∈ txt s, 0 ≤ x ∧ x ≤ 18446744073709551615 := by
  intro x hx
  rcases List.mem_cons.1 hx with rfl | hx
  · exact intW_bounds _
  · obtain ⟨n, hn, rfl⟩ := List.mem_map.1 hx
    have := packL_lt (bytesN s) (bytesN_lt s) n hn
    omega
/-- the words of a text are told, and they are the text -/
theorem text_words {s : ByteArray} (hs : s.size ≤ 1000000000) : wordsOk (textO s) ∧ toI ((textO s).parts.headD 0) = s.size ∧ natsOf (textO s).parts.tail = packL (bytesN s) := by
  have h1 := toI_intW s.size (by omega)
  refine ⟨⟨rfl, rfl, h1.2, ?_, ?_, ?_⟩, h1.1, natsOf_map _⟩
  · show 0 ≤ toI (intW s.size); rw [h1.1]; omega
  · show toI (intW s.size) ≤ ((txt s).length - 1 : Int) * 8; rw [h1.1, txt_len]; omega
  · show need (toI (intW s.size)) = (txt s).length + 1; rw [h1.1, txt_len]; unfold need; omega
theorem words_text {o : HO} (ho : o.ok) (hw : wordsOk o) (ht : tOk (natsOf o.parts.tail) (toI (o.parts.headD 0)) = true) : o = textO (tS (natsOf o.parts.tail) (toI (o.parts.headD 0))) := by
  obtain ⟨kd, tg, ps⟩ := o
  obtain ⟨_, hpos, hb⟩ := ho
  simp only at hb hpos
  obtain ⟨k1, k2, k3, k4, k5, k6⟩ := hw
  simp only at k1 k2 k3 k4 k5 k6 ht ⊢
  cases ps with
  | nil => simp at hpos
  | cons p l =>
    simp only [List.headD_cons, List.tail_cons] at *
    obtain ⟨n, hn⟩ : ∃ n : Nat, toI p = n := ⟨(toI p).toNat, by omega⟩
    have hp := hb p (by simp)
    have e := intW_toI hp.1 hp.2 k3
    rw [hn] at ht e ⊢
    have hlt : ∀ x ∈ natsOf l, x < 18446744073709551616 := by
      intro x hx
      obtain ⟨y, hy, rfl⟩ := List.mem_map.1 hx
      have := hb y (by simp [hy])
      omega
    have ht' := ht
    unfold tOk at ht
    simp only [Bool.and_eq_true, beq_iff_eq, Int.toNat_natCast] at ht
    have hbn : bytesN (tS (natsOf l) n) = bytesOf (natsOf l) n := by
      unfold tS unpS
      rw [ht', if_pos rfl, Int.toNat_natCast]
      refine bytesN_strN _ (fun x hx => ?_)
      obtain ⟨i, _, rfl⟩ := List.mem_map.1 hx
      exact byteAt_lt _ _
    have hsz : (tS (natsOf l) n).size = n := by rw [← bytesN_len, hbn, bytesOf_len]
    subst k1 k2
    unfold textO txt
    rw [hbn, hsz, e, ht.2, natsOf_cast (fun x hx => (hb x (by simp [hx])).1)]
/-- is an object a text? -/
def IsT (o : HO) (s : ByteArray) : Prop := o = textO s ∧ s.size ≤ 1000000000
theorem isT_iff {o : HO} (ho : o.ok) {s : ByteArray} : IsT o s ↔ wordsOk o ∧ tOk (natsOf o.parts.tail) (toI (o.parts.headD 0)) = true ∧ s = tS (natsOf o.parts.tail) (toI (o.parts.headD 0)) := by
  constructor
  · rintro ⟨rfl, hs⟩
    obtain ⟨h1, h2, h3⟩ := text_words hs
    rw [h2, h3]
    exact ⟨h1, (tOk_pack s).1, (tOk_pack s).2.symm⟩
  · rintro ⟨h1, h2, rfl⟩
    have h := words_text ho h1 h2
    refine ⟨h, ?_⟩
    have hl := ho.1
    unfold headOk at hl
    simp only [Bool.and_eq_true, decide_eq_true_eq] at hl
    have h6 : (textO (tS (natsOf o.parts.tail) (toI (o.parts.headD 0)))).parts.length = o.parts.length := by rw [← h]
    rw [show (textO (tS (natsOf o.parts.tail) (toI (o.parts.headD 0)))).parts = txt (tS (natsOf o.parts.tail) (toI (o.parts.headD 0))) from rfl, txt_len] at h6
    omega
/-- the text of a word -/
noncomputable def getT (H : List HO) (w : Int) : Option ByteArray := by
  classical exact match objOf H w with
  | some o => if wordsOk o ∧ tOk (natsOf o.parts.tail) (toI (o.parts.headD 0)) = true then some (tS (natsOf o.parts.tail) (toI (o.parts.headD 0))) else none
  | none => none
noncomputable def getR (H : List HO) (w : Int) : AV := match getT H w with
  | some s => .tup [.val (.string s), .val (.bool true)]
  | none => .tup [.val (.string ⟨#[]⟩), .val (.bool false)]
theorem txt_iv (s : ByteArray) : (txt s).map iv = iv (intW s.size) :: (packL (bytesN s)).map ivN := by
  unfold txt; rw [List.map_cons, List.map_map]; rfl
end Go.Proofs.Ytecpnlhjjmcllaa
namespace Go.Proofs.Ytecpnlhjjmcllaa
open Go.RowKit
def oRow (a : Nat) (o : HO) : List AV := [.val (.int .i64 a), .val (.int .i64 o.kind), .val (.int .i64 o.tag), .seq 1 (o.parts.map iv)]
def oRows : Nat → List HO → List (List AV)
  | _, [] => []
  | a, o :: H => oRow a o :: oRows (a + 1 + o.parts.length) H
theorem oRows_len : ∀ (H : List HO) (a : Nat), (oRows a H).length = H.length
  | [], _ => rfl
  | o :: H, a => by rw [oRows, List.length_cons, oRows_len H, List.length_cons]
theorem oRows_at : ∀ (H : List HO) (a k : Nat) (o : HO), H[k]? = some o → (oRows a H)[k]? = some (oRow (a + used (H.take k)) o)
  | [], a, k, o, h => by simp at h
  | x :: H, a, 0, o, h => by simp at h; subst h; rw [oRows]; simp [used_nil]
  | x :: H, a, k + 1, o, h => by
    simp at h
    rw [oRows, List.getElem?_cons_succ, oRows_at H _ k o h, List.take_succ_cons, used_cons]
    congr 2
    omega
theorem oRows_get {H : List HO} {k : Nat} {o : HO} (h : H[k]? = some o) : (oRows 1 H)[k]? = some (oRow (adr H k) o) := by
  rw [oRows_at H 1 k o h, adr, Nat.add_comm]
theorem oRows_app : ∀ (H : List HO) (a : Nat) (o : HO), oRows a (H ++ [o]) = oRows a H ++ [oRow (a + used H) o]
  | [], a, o => by simp [oRows, used_nil]
  | x :: H, a, o => by
    rw [List.cons_append, oRows, oRows, oRows_app H, used_cons, List.cons_append]
    congr 4
    omega
def RefAt (br : Nat) (sz : Int) (H : List HO) (M : Mem) : Prop := ∃ u, M = [.loc br [.val (.int .i64 sz), .own u 4 (oRows 1 H)], .own 86 4 u]
set_option maxHeartbeats 4000000 in
set_option maxRecDepth 100000 in
theorem rUsed_c (br : Nat) (sz : Int) (H : List HO) (M : Mem) (hM : RefAt br sz H M) (hu : used H ≤ 16777216) : KCall Try.prog 16 [.ptr br 0] M (.val (.int .i64 (used H))) := by
  obtain ⟨u, rfl⟩ := hM
  have hl := oRows_len H 1
  have hH : H.length ≤ used H := by
    clear hl hu
    induction H with
    | nil => simp
    | cons o H ih => rw [used_cons, List.length_cons]; omega
  refine ACall.enter Try.func16 rfl (by kernel_rfl) rfl (Nat.le_of_ble_eq_true rfl) ?_
  refine c_start ?_
  refine c_seq ?_
  refine c_region ?_
  refine AOps.st 2 rfl rfl rfl (op_assign rfl rfl ?_)
  refine AOps.nil ?_
  refine go_code ?_
  refine c_seq ?_
  refine c_region ?_
  refine AOps.st 3 rfl rfl rfl (op_assign rfl rfl ?_)
  refine AOps.nil ?_
  refine go_code ?_
  refine c_seq ?_
  refine c_seq ?_
  refine c_region ?_
  refine AOps.st 4 rfl rfl rfl (op_assign rfl rfl ?_)
  refine AOps.nil ?_
  refine go_code ?_
  refine c_block ?_
  apply c_loopkm [1, 3, 4, 5, 6, 7, 8, 9, 10, 11, 12, 13, 14, 15, 16, 17, 18, 19, 20, 21, 22, 23, 24, 25] (σ := Nat) (fun zz => match zz with | k => [(3, .val (.int .i64 (used (H.take k)))), (4, .val (.int .i64 k))]) (fun zz => match zz with | k => k ≤ H.length) (fun zz => match zz with | k => H.length - k) (0)
  · repeat' (first | exact Drops.nil | apply Drops.keep rfl | apply Drops.skip rfl)
  · exact Nat.zero_le _
  · exact (by repeat' (first | exact SLe.nil _ | refine SLe.cons rfl ?_ ?_ | exact Le.refl _ | exact Le.own _ _ _ | exact Le.nil _))
  rintro k hI
  try dsimp only [List.cons_append, List.nil_append] at hI ⊢
  refine c_seq ?_
  refine c_seq ?_
  refine c_region ?_
  refine AOps.st 5 rfl rfl rfl (op_move rfl rfl ?_)
  refine AOps.st 6 rfl rfl rfl (op_move rfl rfl ?_)
  first | (refine AOps.st 7 rfl rfl rfl (op_nilCheck_m rfl rfl ?_)) | (refine AOps.st 7 rfl rfl rfl (op_nilCheck_c rfl rfl ?_)) | (refine AOps.st 7 rfl rfl rfl (op_nilCheck_f rfl rfl ?_))
  first | (refine AOps.st 8 rfl rfl rfl (op_fieldAddr_m rfl tf_33_1 rfl ?_)) | (refine AOps.st 8 rfl rfl rfl (op_fieldAddr_c rfl tf_33_1 rfl rfl ?_))
  first | (refine AOps.st 9 rfl rfl rfl (op_load_m1 (i := 0) rfl ta_31 rfl rfl rfl ?_)) | (refine AOps.st 9 rfl rfl rfl (op_load_m1 (i := 1) rfl ta_31 rfl rfl rfl ?_)) | (refine AOps.st 9 rfl rfl rfl (op_load_m1 (i := 2) rfl ta_31 rfl rfl rfl ?_)) | (refine AOps.st 9 rfl rfl rfl (op_load_m1 (i := 3) rfl ta_31 rfl rfl rfl ?_)) | (refine AOps.st 9 rfl rfl rfl (op_load_m1 (i := 4) rfl ta_31 rfl rfl rfl ?_)) | (refine AOps.st 9 rfl rfl rfl (op_load_m1 (i := 5) rfl ta_31 rfl rfl rfl ?_)) | (refine AOps.st 9 rfl rfl rfl (op_load_m1 (i := 6) rfl ta_31 rfl rfl rfl ?_)) | (refine AOps.st 9 rfl rfl rfl (op_load_m1 (i := 7) rfl ta_31 rfl rfl rfl ?_)) | (refine AOps.st 9 rfl rfl rfl (op_load_m1 (i := 8) rfl ta_31 rfl rfl rfl ?_)) | (refine AOps.st 9 rfl rfl rfl (op_load_m1 (i := 9) rfl ta_31 rfl rfl rfl ?_)) | (refine AOps.st 9 rfl rfl rfl (op_load_c1 rfl ta_31 rfl rfl ?_))
  first | (refine AOps.st 10 rfl rfl rfl (op_len rfl tu_31 rfl (.seq _ _) (fun n10 => ?_))) | (refine AOps.st 10 rfl rfl rfl (op_len rfl tu_31 rfl (.own _ _ _) (fun n10 => ?_))) | (refine AOps.st 10 rfl rfl rfl (op_len rfl tu_31 rfl (.nil 0) (fun n10 => ?_))) | (refine AOps.st 10 rfl rfl rfl (op_len_arr rfl tu_31 rfl ?_))
  refine AOps.st 11 rfl rfl rfl (op_lss rfl rfl rfl ?_); intro c11 h11
  refine AOps.nil ?_
  refine go_code ?_
  rcases bool_split h11 with ⟨rfl, g11⟩ | ⟨rfl, g11⟩
  · refine c_cond_f rfl ?_
    refine c_exit ?_
    refine x_code ?_
    refine x_lp ?_
    refine x_here ?_
    refine go_code ?_
    refine c_seq ?_
    rw [List.take_of_length_le (by omega)]
    refine c_region ?_
    refine AOps.st 26 rfl rfl rfl (op_move rfl rfl ?_)
    refine AOps.st 2 rfl rfl rfl (op_assign rfl rfl ?_)
    refine AOps.nil ?_
    refine go_code ?_
    refine c_ret ?_
    exact out_tmp rfl rfl (Le.refl _) (by first | exact MLe.none _ | exact MLe.refl _ | (repeat' (first | exact MLe.nil | exact MLe.refl _ | refine MLe.cons _ ?_ | refine MLe.drop _ ?_))) ⟨rfl, rfl⟩
  · refine c_cond_t rfl ?_
    refine c_skip ?_
    refine go_code ?_
    refine c_seq ?_
    refine c_block ?_
    obtain ⟨o, ho⟩ := getk (l := H) (i := k) (by omega)
    have hg := oRows_get ho
    have hn := used_take H (k + 1)
    have hlm : (o.parts.map iv).length = o.parts.length := List.length_map ..
    have hn2 : used (H.take (k + 1)) = used (H.take k) + (o.parts.length + 1) := by rw [take_next ho, used_app, used_one]
    refine c_region ?_
    refine AOps.st 14 rfl rfl rfl (op_move rfl rfl ?_)
    first | (refine AOps.st 15 rfl rfl rfl (op_add rfl rfl rfl (IntWalk.i64_in _ (by omega)) ?_)) | (refine AOps.st 15 rfl rfl rfl (op_add rfl rfl rfl rfl ?_))
    refine AOps.st 16 rfl rfl rfl (op_move rfl rfl ?_)
    first | (refine AOps.st 17 rfl rfl rfl (op_nilCheck_m rfl rfl ?_)) | (refine AOps.st 17 rfl rfl rfl (op_nilCheck_c rfl rfl ?_)) | (refine AOps.st 17 rfl rfl rfl (op_nilCheck_f rfl rfl ?_))
    first | (refine AOps.st 18 rfl rfl rfl (op_fieldAddr_m rfl tf_33_1 rfl ?_)) | (refine AOps.st 18 rfl rfl rfl (op_fieldAddr_c rfl tf_33_1 rfl rfl ?_))
    first | (refine AOps.st 19 rfl rfl rfl (op_load_m1 (i := 0) rfl ta_31 rfl rfl rfl ?_)) | (refine AOps.st 19 rfl rfl rfl (op_load_m1 (i := 1) rfl ta_31 rfl rfl rfl ?_)) | (refine AOps.st 19 rfl rfl rfl (op_load_m1 (i := 2) rfl ta_31 rfl rfl rfl ?_)) | (refine AOps.st 19 rfl rfl rfl (op_load_m1 (i := 3) rfl ta_31 rfl rfl rfl ?_)) | (refine AOps.st 19 rfl rfl rfl (op_load_m1 (i := 4) rfl ta_31 rfl rfl rfl ?_)) | (refine AOps.st 19 rfl rfl rfl (op_load_m1 (i := 5) rfl ta_31 rfl rfl rfl ?_)) | (refine AOps.st 19 rfl rfl rfl (op_load_m1 (i := 6) rfl ta_31 rfl rfl rfl ?_)) | (refine AOps.st 19 rfl rfl rfl (op_load_m1 (i := 7) rfl ta_31 rfl rfl rfl ?_)) | (refine AOps.st 19 rfl rfl rfl (op_load_m1 (i := 8) rfl ta_31 rfl rfl rfl ?_)) | (refine AOps.st 19 rfl rfl rfl (op_load_m1 (i := 9) rfl ta_31 rfl rfl rfl ?_)) | (refine AOps.st 19 rfl rfl rfl (op_load_c1 rfl ta_31 rfl rfl ?_))
    refine AOps.st 20 rfl rfl rfl (op_move rfl rfl ?_)
    first | (refine AOps.st 21 rfl rfl rfl (op_index rfl te_31 rfl (.seq _ _) rfl rfl (hg) ?_)) | (refine AOps.st 21 rfl rfl rfl (op_index (i := 0) rfl te_31 rfl (.seq _ _) rfl rfl (by first | rfl | assumption) ?_)) | (refine AOps.st 21 rfl rfl rfl (op_index (i := 1) rfl te_31 rfl (.seq _ _) rfl rfl (by first | rfl | assumption) ?_)) | (refine AOps.st 21 rfl rfl rfl (op_index rfl te_31 rfl (.own _ _ _) rfl rfl (hg) ?_)) | (refine AOps.st 21 rfl rfl rfl (op_index (i := 0) rfl te_31 rfl (.own _ _ _) rfl rfl (by first | rfl | assumption) ?_)) | (refine AOps.st 21 rfl rfl rfl (op_index (i := 1) rfl te_31 rfl (.own _ _ _) rfl rfl (by first | rfl | assumption) ?_)) | (refine AOps.st 21 rfl rfl rfl (op_index_arr rfl te_31 rfl rfl rfl (by omega) ?_))
    first | (refine AOps.st 22 rfl rfl rfl (op_fieldAddr_m rfl tf_86_3 rfl ?_)) | (refine AOps.st 22 rfl rfl rfl (op_fieldAddr_c rfl tf_86_3 rfl rfl ?_))
    first | (refine AOps.st 23 rfl rfl rfl (op_load_m1 (i := 0) rfl ta_34 rfl rfl rfl ?_)) | (refine AOps.st 23 rfl rfl rfl (op_load_m1 (i := 1) rfl ta_34 rfl rfl rfl ?_)) | (refine AOps.st 23 rfl rfl rfl (op_load_m1 (i := 2) rfl ta_34 rfl rfl rfl ?_)) | (refine AOps.st 23 rfl rfl rfl (op_load_m1 (i := 3) rfl ta_34 rfl rfl rfl ?_)) | (refine AOps.st 23 rfl rfl rfl (op_load_m1 (i := 4) rfl ta_34 rfl rfl rfl ?_)) | (refine AOps.st 23 rfl rfl rfl (op_load_m1 (i := 5) rfl ta_34 rfl rfl rfl ?_)) | (refine AOps.st 23 rfl rfl rfl (op_load_m1 (i := 6) rfl ta_34 rfl rfl rfl ?_)) | (refine AOps.st 23 rfl rfl rfl (op_load_m1 (i := 7) rfl ta_34 rfl rfl rfl ?_)) | (refine AOps.st 23 rfl rfl rfl (op_load_m1 (i := 8) rfl ta_34 rfl rfl rfl ?_)) | (refine AOps.st 23 rfl rfl rfl (op_load_m1 (i := 9) rfl ta_34 rfl rfl rfl ?_)) | (refine AOps.st 23 rfl rfl rfl (op_load_c1 rfl ta_34 rfl rfl ?_))
    first | (refine AOps.st 24 rfl rfl rfl (op_len rfl tu_34 rfl (.seq _ _) (fun n24 => ?_))) | (refine AOps.st 24 rfl rfl rfl (op_len rfl tu_34 rfl (.own _ _ _) (fun n24 => ?_))) | (refine AOps.st 24 rfl rfl rfl (op_len rfl tu_34 rfl (.nil 0) (fun n24 => ?_))) | (refine AOps.st 24 rfl rfl rfl (op_len_arr rfl tu_34 rfl ?_))
    first | (refine AOps.st 25 rfl rfl rfl (op_add rfl rfl rfl (IntWalk.i64_in _ (by omega)) ?_)) | (refine AOps.st 25 rfl rfl rfl (op_add rfl rfl rfl rfl ?_))
    refine AOps.st 3 rfl rfl rfl (op_assign rfl rfl ?_)
    refine AOps.nil ?_
    refine go_blk ?_
    refine go_code ?_
    refine c_region ?_
    refine AOps.st 12 rfl rfl rfl (op_move rfl rfl ?_)
    first | (refine AOps.st 13 rfl rfl rfl (op_add rfl rfl rfl (IntWalk.i64_in _ (by omega)) ?_)) | (refine AOps.st 13 rfl rfl rfl (op_add rfl rfl rfl rfl ?_))
    refine AOps.st 4 rfl rfl rfl (op_assign rfl rfl ?_)
    refine AOps.nil ?_
    refine go_lp ?_
    exact ⟨k + 1, by have := get_lt ho; omega, by have := get_lt ho; show H.length - (k + 1) < H.length - k; omega, SLe.cons rfl (Le.ieq (by rw [List.length_map]; omega)) (by repeat' (first | exact SLe.nil _ | refine SLe.cons rfl ?_ ?_ | exact Le.refl _ | exact Le.own _ _ _ | exact Le.nil _)), (by first | exact MLe.none _ | exact MLe.refl _ | (repeat' (first | exact MLe.nil | exact MLe.refl _ | refine MLe.cons _ ?_ | refine MLe.drop _ ?_)))⟩
theorem objFrom_drop {H : List HO} {k : Nat} {o : HO} {w : Int} (h : H[k]? = some o) : objFrom (adr H k) (H.drop k) w = if w = 2 * ((adr H k : Nat) : Int) then some o else objFrom (adr H (k + 1)) (H.drop (k + 1)) w := by
  obtain ⟨hk, rfl⟩ := List.getElem?_eq_some_iff.1 h
  rw [List.drop_eq_getElem_cons hk, objFrom, adr_next h]
set_option maxHeartbeats 4000000 in
set_option maxRecDepth 100000 in
theorem rFind_c (br : Nat) (sz : Int) (H : List HO) (M : Mem) (hM : RefAt br sz H M) (hu : used H ≤ 16777216) (w : Int) : ACall Try.prog 41 [.ptr br 0, .val (.int .u64 w)] M (fun v M' => ((∃ k o, H[k]? = some o ∧ objOf H w = some o ∧ v = .val (.int .i64 (k : Nat))) ∨ (objOf H w = none ∧ v = .val (.int .i64 (-1)))) ∧ M' = M) := by
  obtain ⟨u, rfl⟩ := hM
  have hl := oRows_len H 1
  have hst : objOf H w = objFrom (adr H 0) (H.drop 0) w := rfl
  generalize hob : objOf H w = ob at hst ⊢
  refine ACall.enter Try.func41 rfl (by kernel_rfl) rfl (Nat.le_of_ble_eq_true rfl) ?_
  refine c_start ?_
  refine c_seq ?_
  refine c_region ?_
  refine AOps.st 4 rfl rfl rfl (op_assign rfl rfl ?_)
  refine AOps.nil ?_
  refine go_code ?_
  refine c_seq ?_
  refine c_seq ?_
  refine c_region ?_
  refine AOps.st 5 rfl rfl rfl (op_assign rfl rfl ?_)
  refine AOps.nil ?_
  refine go_code ?_
  refine c_block ?_
  apply c_loopkm [2, 3, 4, 5, 6, 7, 8, 9, 10, 11, 12, 13, 14, 15, 16, 17, 18, 19, 20, 21, 22, 23, 24, 25, 26, 27] (σ := Nat) (fun zz => match zz with | k => [(5, .val (.int .i64 k))]) (fun zz => match zz with | k => k ≤ H.length ∧ ob = objFrom (adr H k) (H.drop k) w) (fun zz => match zz with | k => H.length - k) (0)
  · repeat' (first | exact Drops.nil | apply Drops.keep rfl | apply Drops.skip rfl)
  · exact ⟨Nat.zero_le _, hst⟩
  · exact (by repeat' (first | exact SLe.nil _ | refine SLe.cons rfl ?_ ?_ | exact Le.refl _ | exact Le.own _ _ _ | exact Le.nil _))
  rintro k hI
  try dsimp only [List.cons_append, List.nil_append] at hI ⊢
  obtain ⟨hk, hob2⟩ := hI
  refine c_seq ?_
  refine c_seq ?_
  refine c_region ?_
  refine AOps.st 6 rfl rfl rfl (op_move rfl rfl ?_)
  refine AOps.st 7 rfl rfl rfl (op_move rfl rfl ?_)
  first | (refine AOps.st 8 rfl rfl rfl (op_nilCheck_m rfl rfl ?_)) | (refine AOps.st 8 rfl rfl rfl (op_nilCheck_c rfl rfl ?_)) | (refine AOps.st 8 rfl rfl rfl (op_nilCheck_f rfl rfl ?_))
  first | (refine AOps.st 9 rfl rfl rfl (op_fieldAddr_m rfl tf_33_1 rfl ?_)) | (refine AOps.st 9 rfl rfl rfl (op_fieldAddr_c rfl tf_33_1 rfl rfl ?_))
  first | (refine AOps.st 10 rfl rfl rfl (op_load_m1 (i := 0) rfl ta_31 rfl rfl rfl ?_)) | (refine AOps.st 10 rfl rfl rfl (op_load_m1 (i := 1) rfl ta_31 rfl rfl rfl ?_)) | (refine AOps.st 10 rfl rfl rfl (op_load_m1 (i := 2) rfl ta_31 rfl rfl rfl ?_)) | (refine AOps.st 10 rfl rfl rfl (op_load_m1 (i := 3) rfl ta_31 rfl rfl rfl ?_)) | (refine AOps.st 10 rfl rfl rfl (op_load_m1 (i := 4) rfl ta_31 rfl rfl rfl ?_)) | (refine AOps.st 10 rfl rfl rfl (op_load_m1 (i := 5) rfl ta_31 rfl rfl rfl ?_)) | (refine AOps.st 10 rfl rfl rfl (op_load_m1 (i := 6) rfl ta_31 rfl rfl rfl ?_)) | (refine AOps.st 10 rfl rfl rfl (op_load_m1 (i := 7) rfl ta_31 rfl rfl rfl ?_)) | (refine AOps.st 10 rfl rfl rfl (op_load_m1 (i := 8) rfl ta_31 rfl rfl rfl ?_)) | (refine AOps.st 10 rfl rfl rfl (op_load_m1 (i := 9) rfl ta_31 rfl rfl rfl ?_)) | (refine AOps.st 10 rfl rfl rfl (op_load_c1 rfl ta_31 rfl rfl ?_))
  first | (refine AOps.st 11 rfl rfl rfl (op_len rfl tu_31 rfl (.seq _ _) (fun n11 => ?_))) | (refine AOps.st 11 rfl rfl rfl (op_len rfl tu_31 rfl (.own _ _ _) (fun n11 => ?_))) | (refine AOps.st 11 rfl rfl rfl (op_len rfl tu_31 rfl (.nil 0) (fun n11 => ?_))) | (refine AOps.st 11 rfl rfl rfl (op_len_arr rfl tu_31 rfl ?_))
  refine AOps.st 12 rfl rfl rfl (op_lss rfl rfl rfl ?_); intro c12 h12
  refine AOps.nil ?_
  refine go_code ?_
  rcases bool_split h12 with ⟨rfl, g12⟩ | ⟨rfl, g12⟩
  · refine c_cond_f rfl ?_
    refine c_exit ?_
    refine x_code ?_
    refine x_lp ?_
    refine x_here ?_
    refine go_code ?_
    refine c_seq ?_
    refine c_region ?_
    refine AOps.st 4 rfl rfl rfl (op_assign rfl rfl ?_)
    refine AOps.nil ?_
    refine go_code ?_
    refine c_ret ?_
    exact out_tmp rfl rfl (Le.refl _) (by first | exact MLe.none _ | exact MLe.refl _ | (repeat' (first | exact MLe.nil | exact MLe.refl _ | refine MLe.cons _ ?_ | refine MLe.drop _ ?_))) ⟨.inr ⟨by rw [hob2, List.drop_eq_nil_of_le (by omega)]; rfl, rfl⟩, rfl⟩
  · refine c_cond_t rfl ?_
    refine c_skip ?_
    refine go_code ?_
    refine c_seq ?_
    refine c_block ?_
    refine c_seq ?_
    obtain ⟨o, ho⟩ := getk (l := H) (i := k) (by omega)
    have hg := oRows_get ho
    have hn := adr_fit ho
    rw [objFrom_drop ho] at hob2
    refine c_region ?_
    refine AOps.st 15 rfl rfl rfl (op_move rfl rfl ?_)
    first | (refine AOps.st 16 rfl rfl rfl (op_nilCheck_m rfl rfl ?_)) | (refine AOps.st 16 rfl rfl rfl (op_nilCheck_c rfl rfl ?_)) | (refine AOps.st 16 rfl rfl rfl (op_nilCheck_f rfl rfl ?_))
    first | (refine AOps.st 17 rfl rfl rfl (op_fieldAddr_m rfl tf_33_1 rfl ?_)) | (refine AOps.st 17 rfl rfl rfl (op_fieldAddr_c rfl tf_33_1 rfl rfl ?_))
    first | (refine AOps.st 18 rfl rfl rfl (op_load_m1 (i := 0) rfl ta_31 rfl rfl rfl ?_)) | (refine AOps.st 18 rfl rfl rfl (op_load_m1 (i := 1) rfl ta_31 rfl rfl rfl ?_)) | (refine AOps.st 18 rfl rfl rfl (op_load_m1 (i := 2) rfl ta_31 rfl rfl rfl ?_)) | (refine AOps.st 18 rfl rfl rfl (op_load_m1 (i := 3) rfl ta_31 rfl rfl rfl ?_)) | (refine AOps.st 18 rfl rfl rfl (op_load_m1 (i := 4) rfl ta_31 rfl rfl rfl ?_)) | (refine AOps.st 18 rfl rfl rfl (op_load_m1 (i := 5) rfl ta_31 rfl rfl rfl ?_)) | (refine AOps.st 18 rfl rfl rfl (op_load_m1 (i := 6) rfl ta_31 rfl rfl rfl ?_)) | (refine AOps.st 18 rfl rfl rfl (op_load_m1 (i := 7) rfl ta_31 rfl rfl rfl ?_)) | (refine AOps.st 18 rfl rfl rfl (op_load_m1 (i := 8) rfl ta_31 rfl rfl rfl ?_)) | (refine AOps.st 18 rfl rfl rfl (op_load_m1 (i := 9) rfl ta_31 rfl rfl rfl ?_)) | (refine AOps.st 18 rfl rfl rfl (op_load_c1 rfl ta_31 rfl rfl ?_))
    refine AOps.st 19 rfl rfl rfl (op_move rfl rfl ?_)
    first | (refine AOps.st 20 rfl rfl rfl (op_index rfl te_31 rfl (.seq _ _) rfl rfl (hg) ?_)) | (refine AOps.st 20 rfl rfl rfl (op_index (i := 0) rfl te_31 rfl (.seq _ _) rfl rfl (by first | rfl | assumption) ?_)) | (refine AOps.st 20 rfl rfl rfl (op_index (i := 1) rfl te_31 rfl (.seq _ _) rfl rfl (by first | rfl | assumption) ?_)) | (refine AOps.st 20 rfl rfl rfl (op_index rfl te_31 rfl (.own _ _ _) rfl rfl (hg) ?_)) | (refine AOps.st 20 rfl rfl rfl (op_index (i := 0) rfl te_31 rfl (.own _ _ _) rfl rfl (by first | rfl | assumption) ?_)) | (refine AOps.st 20 rfl rfl rfl (op_index (i := 1) rfl te_31 rfl (.own _ _ _) rfl rfl (by first | rfl | assumption) ?_)) | (refine AOps.st 20 rfl rfl rfl (op_index_arr rfl te_31 rfl rfl rfl (by omega) ?_))
    first | (refine AOps.st 21 rfl rfl rfl (op_fieldAddr_m rfl tf_86_0 rfl ?_)) | (refine AOps.st 21 rfl rfl rfl (op_fieldAddr_c rfl tf_86_0 rfl rfl ?_))
    first | (refine AOps.st 22 rfl rfl rfl (op_load_m1 (i := 0) rfl ta_3 rfl rfl rfl ?_)) | (refine AOps.st 22 rfl rfl rfl (op_load_m1 (i := 1) rfl ta_3 rfl rfl rfl ?_)) | (refine AOps.st 22 rfl rfl rfl (op_load_m1 (i := 2) rfl ta_3 rfl rfl rfl ?_)) | (refine AOps.st 22 rfl rfl rfl (op_load_m1 (i := 3) rfl ta_3 rfl rfl rfl ?_)) | (refine AOps.st 22 rfl rfl rfl (op_load_m1 (i := 4) rfl ta_3 rfl rfl rfl ?_)) | (refine AOps.st 22 rfl rfl rfl (op_load_m1 (i := 5) rfl ta_3 rfl rfl rfl ?_)) | (refine AOps.st 22 rfl rfl rfl (op_load_m1 (i := 6) rfl ta_3 rfl rfl rfl ?_)) | (refine AOps.st 22 rfl rfl rfl (op_load_m1 (i := 7) rfl ta_3 rfl rfl rfl ?_)) | (refine AOps.st 22 rfl rfl rfl (op_load_m1 (i := 8) rfl ta_3 rfl rfl rfl ?_)) | (refine AOps.st 22 rfl rfl rfl (op_load_m1 (i := 9) rfl ta_3 rfl rfl rfl ?_)) | (refine AOps.st 22 rfl rfl rfl (op_load_c1 rfl ta_3 rfl rfl ?_))
    first | (refine AOps.st 23 rfl rfl rfl (op_mul rfl rfl rfl (IntWalk.i64_in _ (by omega)) ?_)) | (refine AOps.st 23 rfl rfl rfl (op_mul rfl rfl rfl rfl ?_))
    first | (refine AOps.st 24 rfl rfl rfl (op_convert rfl tu_3 tu_42 rfl (IntWalk.u64_in _ (by omega)) ?_)) | (refine AOps.st 24 rfl rfl rfl (op_convert rfl tu_3 tu_42 rfl rfl ?_))
    refine AOps.st 25 rfl rfl rfl (op_move rfl rfl ?_)
    refine AOps.st 26 rfl rfl rfl (op_eql rfl rfl rfl ?_); intro c26 h26
    refine AOps.nil ?_
    refine go_code ?_
    rcases bool_split h26 with ⟨rfl, g26⟩ | ⟨rfl, g26⟩
    · refine c_cond_f rfl ?_
      refine c_skip ?_
      refine go_blk ?_
      refine go_code ?_
      refine c_region ?_
      refine AOps.st 13 rfl rfl rfl (op_move rfl rfl ?_)
      first | (refine AOps.st 14 rfl rfl rfl (op_add rfl rfl rfl (IntWalk.i64_in _ (by omega)) ?_)) | (refine AOps.st 14 rfl rfl rfl (op_add rfl rfl rfl rfl ?_))
      refine AOps.st 5 rfl rfl rfl (op_assign rfl rfl ?_)
      refine AOps.nil ?_
      refine go_lp ?_
      exact ⟨k + 1, ⟨by have := get_lt ho; omega, by rw [hob2, if_neg (by omega)]⟩, by have := get_lt ho; show H.length - (k + 1) < H.length - k; omega, (by repeat' (first | exact SLe.nil _ | refine SLe.cons rfl ?_ ?_ | exact Le.refl _ | exact Le.own _ _ _ | exact Le.nil _)), (by first | exact MLe.none _ | exact MLe.refl _ | (repeat' (first | exact MLe.nil | exact MLe.refl _ | refine MLe.cons _ ?_ | refine MLe.drop _ ?_)))⟩
    · refine c_cond_t rfl ?_
      refine c_seq ?_
      refine c_region ?_
      refine AOps.st 27 rfl rfl rfl (op_move rfl rfl ?_)
      refine AOps.st 4 rfl rfl rfl (op_assign rfl rfl ?_)
      refine AOps.nil ?_
      refine go_code ?_
      refine c_ret ?_
      exact out_tmp rfl rfl (Le.refl _) (by first | exact MLe.none _ | exact MLe.refl _ | (repeat' (first | exact MLe.nil | exact MLe.refl _ | refine MLe.cons _ ?_ | refine MLe.drop _ ?_))) ⟨.inl ⟨k, o, ho, by rw [hob2, if_pos (by omega)], rfl⟩, rfl⟩
theorem Le.owns {u : Value} {m : Nat} {es es2 : List (List AV)} (h : Less es es2) : Le (.own u m es) (.own u m es2) := fun F x k => by
  cases k with
  | own _ k => exact .own _ (Le.seq h _ _ k)
set_option maxHeartbeats 4000000 in
set_option maxRecDepth 100000 in
theorem rAlloc_c (br : Nat) (sz : Int) (H : List HO) (M : Mem) (hM : RefAt br sz H M) (hs : sz ≤ 16777216) (hu : used H ≤ 16777216) (hH : H.length ≤ 16777216) (kd tg : Int) (ps : List Int) (hl : ps.length ≤ 100000000) :
    ACall Try.prog 40 [.ptr br 0, .val (.int .i64 kd), .val (.int .i64 tg), .seq 1 (ps.map iv)] M (fun v M' => (Fits31 sz H kd tg ps ∧ v = .val (.int .u64 (2 * (used H + 1 : Int))) ∧ RefAt br sz (H ++ [⟨kd, tg, ps⟩]) M') ∨ (¬ Fits31 sz H kd tg ps ∧ v = .val (.int .u64 0) ∧ M' = M)) := by
  have hU := rUsed_c br sz H M hM hu
  obtain ⟨u, rfl⟩ := hM
  have hlr := oRows_len H 1
  have hlp : (ps.map iv).length = ps.length := by simp
  have happ := oRows_app H 1 ⟨kd, tg, ps⟩
  have hfit : Fits31 sz H kd tg ps ↔ (0 ≤ kd ∧ kd ≤ 3 ∧ 0 ≤ tg ∧ tg ≤ 65535 ∧ 0 < ps.length ∧ (used H : Int) + ps.length + 1 ≤ sz) := by
    unfold Fits31 headOk
    simp only [Bool.and_eq_true, decide_eq_true_eq]
    omega
  rw [hfit]
  refine ACall.enter Try.func40 rfl (by kernel_rfl) rfl (Nat.le_of_ble_eq_true rfl) ?_
  refine c_start ?_
  refine c_seq ?_
  refine c_region ?_
  refine AOps.st 8 rfl rfl rfl (op_assign rfl rfl ?_)
  refine AOps.nil ?_
  refine go_code ?_
  refine c_seq ?_
  refine c_seq ?_
  refine c_boold 42 (¬ (0 ≤ kd ∧ kd ≤ 3 ∧ 0 ≤ tg ∧ tg ≤ 65535 ∧ 0 < ps.length ∧ (used H : Int) + ps.length + 1 ≤ sz)) tmix rfl ?_ _ _ rfl ?_
  · skip
    refine DOps.st 11 rfl rfl (op_move rfl rfl ⟨rfl, rfl⟩) ?_
    refine DOps.cm 12 rfl rfl (fun _ q => op_lss rfl rfl rfl q) ?_; intro c12 h12
    refine DOps.st 13 rfl rfl (op_move rfl rfl ⟨rfl, rfl⟩) ?_
    rcases bool_split h12 with ⟨rfl, g12⟩ | ⟨rfl, g12⟩
    · skip
      refine DOps.gt 14 rfl rfl rfl rfl (op_move rfl rfl ⟨rfl, rfl⟩) ?_
      refine DOps.gtc 15 rfl rfl rfl rfl (fun _ q => op_gtr rfl rfl rfl q) ?_; intro c15 h15
      refine DOps.st 16 rfl rfl (op_pick rfl rfl rfl ⟨rfl, rfl⟩) ?_
      refine DOps.st 17 rfl rfl (op_move rfl rfl ⟨rfl, rfl⟩) ?_
      rcases bool_split h15 with ⟨rfl, g15⟩ | ⟨rfl, g15⟩
      · skip
        refine DOps.gt 18 rfl rfl rfl rfl (op_move rfl rfl ⟨rfl, rfl⟩) ?_
        refine DOps.gtc 19 rfl rfl rfl rfl (fun _ q => op_lss rfl rfl rfl q) ?_; intro c19 h19
        refine DOps.st 20 rfl rfl (op_pick rfl rfl rfl ⟨rfl, rfl⟩) ?_
        refine DOps.st 21 rfl rfl (op_move rfl rfl ⟨rfl, rfl⟩) ?_
        rcases bool_split h19 with ⟨rfl, g19⟩ | ⟨rfl, g19⟩
        · skip
          refine DOps.gt 22 rfl rfl rfl rfl (op_move rfl rfl ⟨rfl, rfl⟩) ?_
          refine DOps.gtc 23 rfl rfl rfl rfl (fun _ q => op_gtr rfl rfl rfl q) ?_; intro c23 h23
          refine DOps.st 24 rfl rfl (op_pick rfl rfl rfl ⟨rfl, rfl⟩) ?_
          refine DOps.st 25 rfl rfl (op_move rfl rfl ⟨rfl, rfl⟩) ?_
          rcases bool_split h23 with ⟨rfl, g23⟩ | ⟨rfl, g23⟩
          · skip
            refine DOps.gt 26 rfl rfl rfl rfl (op_move rfl rfl ⟨rfl, rfl⟩) ?_
            first | (refine DOps.gt 27 rfl rfl rfl rfl (op_len rfl tu_34 rfl (.seq _ _) (fun _ => ⟨rfl, rfl⟩)) ?_) | (refine DOps.gt 27 rfl rfl rfl rfl (op_len rfl tu_34 rfl (.own _ _ _) (fun _ => ⟨rfl, rfl⟩)) ?_) | (refine DOps.gt 27 rfl rfl rfl rfl (op_len rfl tu_34 rfl (.nil 0) (fun _ => ⟨rfl, rfl⟩)) ?_) | (refine DOps.gt 27 rfl rfl rfl rfl (op_len_arr rfl tu_34 rfl ⟨rfl, rfl⟩) ?_)
            refine DOps.gtc 28 rfl rfl rfl rfl (fun _ q => op_eql rfl rfl rfl q) ?_; intro c28 h28
            refine DOps.st 29 rfl rfl (op_pick rfl rfl rfl ⟨rfl, rfl⟩) ?_
            refine DOps.st 30 rfl rfl (op_move rfl rfl ⟨rfl, rfl⟩) ?_
            rcases bool_split h28 with ⟨rfl, g28⟩ | ⟨rfl, g28⟩
            · skip
              refine DOps.gt 31 rfl rfl rfl rfl (op_move rfl rfl ⟨rfl, rfl⟩) ?_
              refine DOps.gt 32 rfl rfl rfl rfl (op_callk (xs := [.tmp 31]) [0,0] rfl rfl rfl (hU) (by first | exact Les.refl _ | (repeat' (first | exact Les.refl _ | refine Les.cons ?_ ?_ | exact Le.refl _ | exact Le.own _ _ _ | exact Le.nil _ | refine Le.agg ?_))) ⟨rfl, rfl⟩) ?_
              first | (refine DOps.gt 33 rfl rfl rfl rfl (op_add rfl rfl rfl (IntWalk.i64_in _ (by omega)) ⟨rfl, rfl⟩) ?_) | (refine DOps.gt 33 rfl rfl rfl rfl (op_add rfl rfl rfl rfl ⟨rfl, rfl⟩) ?_)
              refine DOps.gt 34 rfl rfl rfl rfl (op_move rfl rfl ⟨rfl, rfl⟩) ?_
              first | (refine DOps.gt 35 rfl rfl rfl rfl (op_len rfl tu_34 rfl (.seq _ _) (fun _ => ⟨rfl, rfl⟩)) ?_) | (refine DOps.gt 35 rfl rfl rfl rfl (op_len rfl tu_34 rfl (.own _ _ _) (fun _ => ⟨rfl, rfl⟩)) ?_) | (refine DOps.gt 35 rfl rfl rfl rfl (op_len rfl tu_34 rfl (.nil 0) (fun _ => ⟨rfl, rfl⟩)) ?_) | (refine DOps.gt 35 rfl rfl rfl rfl (op_len_arr rfl tu_34 rfl ⟨rfl, rfl⟩) ?_)
              first | (refine DOps.gt 36 rfl rfl rfl rfl (op_add rfl rfl rfl (IntWalk.i64_in _ (by omega)) ⟨rfl, rfl⟩) ?_) | (refine DOps.gt 36 rfl rfl rfl rfl (op_add rfl rfl rfl rfl ⟨rfl, rfl⟩) ?_)
              refine DOps.gt 37 rfl rfl rfl rfl (op_move rfl rfl ⟨rfl, rfl⟩) ?_
              first | (refine DOps.gt 38 rfl rfl rfl rfl (op_nilCheck_m rfl rfl ⟨rfl, rfl⟩) ?_) | (refine DOps.gt 38 rfl rfl rfl rfl (op_nilCheck_c rfl rfl ⟨rfl, rfl⟩) ?_) | (refine DOps.gt 38 rfl rfl rfl rfl (op_nilCheck_f rfl rfl ⟨rfl, rfl⟩) ?_)
              first | (refine DOps.gt 39 rfl rfl rfl rfl (op_fieldAddr_m rfl tf_33_0 rfl ⟨rfl, rfl⟩) ?_) | (refine DOps.gt 39 rfl rfl rfl rfl (op_fieldAddr_c rfl tf_33_0 rfl rfl ⟨rfl, rfl⟩) ?_)
              first | (refine DOps.gt 40 rfl rfl rfl rfl (op_load_m1 (i := 0) rfl ta_3 rfl rfl rfl ⟨rfl, rfl⟩) ?_) | (refine DOps.gt 40 rfl rfl rfl rfl (op_load_m1 (i := 1) rfl ta_3 rfl rfl rfl ⟨rfl, rfl⟩) ?_) | (refine DOps.gt 40 rfl rfl rfl rfl (op_load_m1 (i := 2) rfl ta_3 rfl rfl rfl ⟨rfl, rfl⟩) ?_) | (refine DOps.gt 40 rfl rfl rfl rfl (op_load_m1 (i := 3) rfl ta_3 rfl rfl rfl ⟨rfl, rfl⟩) ?_) | (refine DOps.gt 40 rfl rfl rfl rfl (op_load_m1 (i := 4) rfl ta_3 rfl rfl rfl ⟨rfl, rfl⟩) ?_) | (refine DOps.gt 40 rfl rfl rfl rfl (op_load_m1 (i := 5) rfl ta_3 rfl rfl rfl ⟨rfl, rfl⟩) ?_) | (refine DOps.gt 40 rfl rfl rfl rfl (op_load_m1 (i := 6) rfl ta_3 rfl rfl rfl ⟨rfl, rfl⟩) ?_) | (refine DOps.gt 40 rfl rfl rfl rfl (op_load_m1 (i := 7) rfl ta_3 rfl rfl rfl ⟨rfl, rfl⟩) ?_) | (refine DOps.gt 40 rfl rfl rfl rfl (op_load_m1 (i := 8) rfl ta_3 rfl rfl rfl ⟨rfl, rfl⟩) ?_) | (refine DOps.gt 40 rfl rfl rfl rfl (op_load_m1 (i := 9) rfl ta_3 rfl rfl rfl ⟨rfl, rfl⟩) ?_) | (refine DOps.gt 40 rfl rfl rfl rfl (op_load_c1 rfl ta_3 rfl rfl ⟨rfl, rfl⟩) ?_)
              refine DOps.gtc 41 rfl rfl rfl rfl (fun _ q => op_gtr rfl rfl rfl q) ?_; intro c41 h41
              refine DOps.st 42 rfl rfl (op_pick rfl rfl rfl ⟨rfl, rfl⟩) ?_
              show BoolQ _ _ _ _ _ _
              refine BoolQ.mk rfl ?_ (by repeat' (first | exact SLe.wo _ _ | exact SLe.refl _ | refine SLe.fresh rfl ?_)) (by first | exact MLe.none _ | exact MLe.refl _ | (repeat' (first | exact MLe.nil | exact MLe.refl _ | refine MLe.cons _ ?_ | refine MLe.drop _ ?_)))
              first | (simp_all; done) | (simp_all; omega) | grind
            · skip
              refine DOps.gf 31 rfl rfl rfl rfl ?_
              refine DOps.gf 32 rfl rfl rfl rfl ?_
              refine DOps.gf 33 rfl rfl rfl rfl ?_
              refine DOps.gf 34 rfl rfl rfl rfl ?_
              refine DOps.gf 35 rfl rfl rfl rfl ?_
              refine DOps.gf 36 rfl rfl rfl rfl ?_
              refine DOps.gf 37 rfl rfl rfl rfl ?_
              refine DOps.gf 38 rfl rfl rfl rfl ?_
              refine DOps.gf 39 rfl rfl rfl rfl ?_
              refine DOps.gf 40 rfl rfl rfl rfl ?_
              refine DOps.gf 41 rfl rfl rfl rfl ?_
              refine DOps.st 42 rfl rfl (op_pick rfl rfl rfl ⟨rfl, rfl⟩) ?_
              show BoolQ _ _ _ _ _ _
              refine BoolQ.mk rfl ?_ (by repeat' (first | exact SLe.wo _ _ | exact SLe.refl _ | refine SLe.fresh rfl ?_)) (by first | exact MLe.none _ | exact MLe.refl _ | (repeat' (first | exact MLe.nil | exact MLe.refl _ | refine MLe.cons _ ?_ | refine MLe.drop _ ?_)))
              first | (simp_all; done) | (simp_all; omega) | grind
          · skip
            refine DOps.gf 26 rfl rfl rfl rfl ?_
            refine DOps.gf 27 rfl rfl rfl rfl ?_
            refine DOps.gf 28 rfl rfl rfl rfl ?_
            refine DOps.st 29 rfl rfl (op_pick rfl rfl rfl ⟨rfl, rfl⟩) ?_
            refine DOps.st 30 rfl rfl (op_move rfl rfl ⟨rfl, rfl⟩) ?_
            refine DOps.gf 31 rfl rfl rfl rfl ?_
            refine DOps.gf 32 rfl rfl rfl rfl ?_
            refine DOps.gf 33 rfl rfl rfl rfl ?_
            refine DOps.gf 34 rfl rfl rfl rfl ?_
            refine DOps.gf 35 rfl rfl rfl rfl ?_
            refine DOps.gf 36 rfl rfl rfl rfl ?_
            refine DOps.gf 37 rfl rfl rfl rfl ?_
            refine DOps.gf 38 rfl rfl rfl rfl ?_
            refine DOps.gf 39 rfl rfl rfl rfl ?_
            refine DOps.gf 40 rfl rfl rfl rfl ?_
            refine DOps.gf 41 rfl rfl rfl rfl ?_
            refine DOps.st 42 rfl rfl (op_pick rfl rfl rfl ⟨rfl, rfl⟩) ?_
            show BoolQ _ _ _ _ _ _
            refine BoolQ.mk rfl ?_ (by repeat' (first | exact SLe.wo _ _ | exact SLe.refl _ | refine SLe.fresh rfl ?_)) (by first | exact MLe.none _ | exact MLe.refl _ | (repeat' (first | exact MLe.nil | exact MLe.refl _ | refine MLe.cons _ ?_ | refine MLe.drop _ ?_)))
            first | (simp_all; done) | (simp_all; omega) | grind
        · skip
          refine DOps.gf 22 rfl rfl rfl rfl ?_
          refine DOps.gf 23 rfl rfl rfl rfl ?_
          refine DOps.st 24 rfl rfl (op_pick rfl rfl rfl ⟨rfl, rfl⟩) ?_
          refine DOps.st 25 rfl rfl (op_move rfl rfl ⟨rfl, rfl⟩) ?_
          refine DOps.gf 26 rfl rfl rfl rfl ?_
          refine DOps.gf 27 rfl rfl rfl rfl ?_
          refine DOps.gf 28 rfl rfl rfl rfl ?_
          refine DOps.st 29 rfl rfl (op_pick rfl rfl rfl ⟨rfl, rfl⟩) ?_
          refine DOps.st 30 rfl rfl (op_move rfl rfl ⟨rfl, rfl⟩) ?_
          refine DOps.gf 31 rfl rfl rfl rfl ?_
          refine DOps.gf 32 rfl rfl rfl rfl ?_
          refine DOps.gf 33 rfl rfl rfl rfl ?_
          refine DOps.gf 34 rfl rfl rfl rfl ?_
          refine DOps.gf 35 rfl rfl rfl rfl ?_
          refine DOps.gf 36 rfl rfl rfl rfl ?_
          refine DOps.gf 37 rfl rfl rfl rfl ?_
          refine DOps.gf 38 rfl rfl rfl rfl ?_
          refine DOps.gf 39 rfl rfl rfl rfl ?_
          refine DOps.gf 40 rfl rfl rfl rfl ?_
          refine DOps.gf 41 rfl rfl rfl rfl ?_
          refine DOps.st 42 rfl rfl (op_pick rfl rfl rfl ⟨rfl, rfl⟩) ?_
          show BoolQ _ _ _ _ _ _
          refine BoolQ.mk rfl ?_ (by repeat' (first | exact SLe.wo _ _ | exact SLe.refl _ | refine SLe.fresh rfl ?_)) (by first | exact MLe.none _ | exact MLe.refl _ | (repeat' (first | exact MLe.nil | exact MLe.refl _ | refine MLe.cons _ ?_ | refine MLe.drop _ ?_)))
          first | (simp_all; done) | (simp_all; omega) | grind
      · skip
        refine DOps.gf 18 rfl rfl rfl rfl ?_
        refine DOps.gf 19 rfl rfl rfl rfl ?_
        refine DOps.st 20 rfl rfl (op_pick rfl rfl rfl ⟨rfl, rfl⟩) ?_
        refine DOps.st 21 rfl rfl (op_move rfl rfl ⟨rfl, rfl⟩) ?_
        refine DOps.gf 22 rfl rfl rfl rfl ?_
        refine DOps.gf 23 rfl rfl rfl rfl ?_
        refine DOps.st 24 rfl rfl (op_pick rfl rfl rfl ⟨rfl, rfl⟩) ?_
        refine DOps.st 25 rfl rfl (op_move rfl rfl ⟨rfl, rfl⟩) ?_
        refine DOps.gf 26 rfl rfl rfl rfl ?_
        refine DOps.gf 27 rfl rfl rfl rfl ?_
        refine DOps.gf 28 rfl rfl rfl rfl ?_
        refine DOps.st 29 rfl rfl (op_pick rfl rfl rfl ⟨rfl, rfl⟩) ?_
        refine DOps.st 30 rfl rfl (op_move rfl rfl ⟨rfl, rfl⟩) ?_
        refine DOps.gf 31 rfl rfl rfl rfl ?_
        refine DOps.gf 32 rfl rfl rfl rfl ?_
        refine DOps.gf 33 rfl rfl rfl rfl ?_
        refine DOps.gf 34 rfl rfl rfl rfl ?_
        refine DOps.gf 35 rfl rfl rfl rfl ?_
        refine DOps.gf 36 rfl rfl rfl rfl ?_
        refine DOps.gf 37 rfl rfl rfl rfl ?_
        refine DOps.gf 38 rfl rfl rfl rfl ?_
        refine DOps.gf 39 rfl rfl rfl rfl ?_
        refine DOps.gf 40 rfl rfl rfl rfl ?_
        refine DOps.gf 41 rfl rfl rfl rfl ?_
        refine DOps.st 42 rfl rfl (op_pick rfl rfl rfl ⟨rfl, rfl⟩) ?_
        show BoolQ _ _ _ _ _ _
        refine BoolQ.mk rfl ?_ (by repeat' (first | exact SLe.wo _ _ | exact SLe.refl _ | refine SLe.fresh rfl ?_)) (by first | exact MLe.none _ | exact MLe.refl _ | (repeat' (first | exact MLe.nil | exact MLe.refl _ | refine MLe.cons _ ?_ | refine MLe.drop _ ?_)))
        first | (simp_all; done) | (simp_all; omega) | grind
    · skip
      refine DOps.gf 14 rfl rfl rfl rfl ?_
      refine DOps.gf 15 rfl rfl rfl rfl ?_
      refine DOps.st 16 rfl rfl (op_pick rfl rfl rfl ⟨rfl, rfl⟩) ?_
      refine DOps.st 17 rfl rfl (op_move rfl rfl ⟨rfl, rfl⟩) ?_
      refine DOps.gf 18 rfl rfl rfl rfl ?_
      refine DOps.gf 19 rfl rfl rfl rfl ?_
      refine DOps.st 20 rfl rfl (op_pick rfl rfl rfl ⟨rfl, rfl⟩) ?_
      refine DOps.st 21 rfl rfl (op_move rfl rfl ⟨rfl, rfl⟩) ?_
      refine DOps.gf 22 rfl rfl rfl rfl ?_
      refine DOps.gf 23 rfl rfl rfl rfl ?_
      refine DOps.st 24 rfl rfl (op_pick rfl rfl rfl ⟨rfl, rfl⟩) ?_
      refine DOps.st 25 rfl rfl (op_move rfl rfl ⟨rfl, rfl⟩) ?_
      refine DOps.gf 26 rfl rfl rfl rfl ?_
      refine DOps.gf 27 rfl rfl rfl rfl ?_
      refine DOps.gf 28 rfl rfl rfl rfl ?_
      refine DOps.st 29 rfl rfl (op_pick rfl rfl rfl ⟨rfl, rfl⟩) ?_
      refine DOps.st 30 rfl rfl (op_move rfl rfl ⟨rfl, rfl⟩) ?_
      refine DOps.gf 31 rfl rfl rfl rfl ?_
      refine DOps.gf 32 rfl rfl rfl rfl ?_
      refine DOps.gf 33 rfl rfl rfl rfl ?_
      refine DOps.gf 34 rfl rfl rfl rfl ?_
      refine DOps.gf 35 rfl rfl rfl rfl ?_
      refine DOps.gf 36 rfl rfl rfl rfl ?_
      refine DOps.gf 37 rfl rfl rfl rfl ?_
      refine DOps.gf 38 rfl rfl rfl rfl ?_
      refine DOps.gf 39 rfl rfl rfl rfl ?_
      refine DOps.gf 40 rfl rfl rfl rfl ?_
      refine DOps.gf 41 rfl rfl rfl rfl ?_
      refine DOps.st 42 rfl rfl (op_pick rfl rfl rfl ⟨rfl, rfl⟩) ?_
      show BoolQ _ _ _ _ _ _
      refine BoolQ.mk rfl ?_ (by repeat' (first | exact SLe.wo _ _ | exact SLe.refl _ | refine SLe.fresh rfl ?_)) (by first | exact MLe.none _ | exact MLe.refl _ | (repeat' (first | exact MLe.nil | exact MLe.refl _ | refine MLe.cons _ ?_ | refine MLe.drop _ ?_)))
      first | (simp_all; done) | (simp_all; omega) | grind
  intro c42 h42
  refine go_code ?_
  rcases bool_split h42 with ⟨rfl, g42⟩ | ⟨rfl, g42⟩
  · refine c_cond_f rfl ?_
    refine c_skip ?_
    refine go_code ?_
    refine c_seq ?_
    refine c_region ?_
    refine AOps.st 9 rfl rfl rfl (op_assign rfl rfl ?_)
    refine AOps.nil ?_
    refine go_code ?_
    refine c_seq ?_
    refine c_region ?_
    refine AOps.st 43 rfl rfl rfl (op_move rfl rfl ?_)
    refine AOps.st 44 rfl rfl rfl (op_callk (xs := [.tmp 43]) [0,0] rfl rfl rfl (hU) (by first | exact Les.refl _ | (repeat' (first | exact Les.refl _ | refine Les.cons ?_ ?_ | exact Le.refl _ | exact Le.own _ _ _ | exact Le.nil _ | refine Le.agg ?_))) ?_)
    first | (refine AOps.st 45 rfl rfl rfl (op_add rfl rfl rfl (IntWalk.i64_in _ (by omega)) ?_)) | (refine AOps.st 45 rfl rfl rfl (op_add rfl rfl rfl rfl ?_))
    refine AOps.st 10 rfl rfl rfl (op_assign rfl rfl ?_)
    refine AOps.nil ?_
    refine go_code ?_
    refine c_seq ?_
    refine c_drawnE [0, 1, 2, 3, 4, 5, 6, 7, 8, 9, 10, 11, 12, 13, 14, 15, 16] [10, 13, 16] [[], [], [1], [1, 2], [1, 2, 3], [], [], [], [], [], [8, 9], [5, 6, 7, 8, 9, 10], [5, 6, 7, 8, 9, 10, 11], [1, 2, 3, 4, 5, 6, 7, 8, 9, 10, 11, 12], [0, 1, 2, 3, 4, 5, 6, 7, 8, 9, 10, 11, 12, 13], [0, 1, 2, 3, 4, 5, 6, 7, 8, 9, 10, 11, 12, 13, 14], [0, 1, 2, 3, 4, 5, 6, 7, 8, 9, 10, 11, 12, 13, 14, 15]] tmix rfl ?_
    refine EOps.d 46 (none) (i := 0) rfl rfl rfl rfl rfl (op_move rfl rfl ⟨rfl, rfl⟩) ?_
    refine EOps.d 47 (none) (i := 1) rfl rfl rfl rfl rfl (op_move rfl rfl ⟨rfl, rfl⟩) ?_
    first | (refine EOps.d 48 (none) (i := 2) rfl rfl rfl rfl rfl (op_nilCheck_m rfl rfl ⟨rfl, rfl⟩) ?_) | (refine EOps.d 48 (none) (i := 2) rfl rfl rfl rfl rfl (op_nilCheck_c rfl rfl ⟨rfl, rfl⟩) ?_) | (refine EOps.d 48 (none) (i := 2) rfl rfl rfl rfl rfl (op_nilCheck_f rfl rfl ⟨rfl, rfl⟩) ?_)
    first | (refine EOps.d 49 (none) (i := 3) rfl rfl rfl rfl rfl (op_fieldAddr_m rfl tf_33_1 rfl ⟨rfl, rfl⟩) ?_) | (refine EOps.d 49 (none) (i := 3) rfl rfl rfl rfl rfl (op_fieldAddr_c rfl tf_33_1 rfl rfl ⟨rfl, rfl⟩) ?_)
    first | (refine EOps.d 50 (some 0) (i := 4) rfl rfl rfl rfl rfl (op_load_m1 (i := 0) rfl ta_31 rfl rfl rfl ⟨rfl, rfl⟩) ?_) | (refine EOps.d 50 (some 1) (i := 4) rfl rfl rfl rfl rfl (op_load_m1 (i := 0) rfl ta_31 rfl rfl rfl ⟨rfl, rfl⟩) ?_) | (refine EOps.d 50 (some 2) (i := 4) rfl rfl rfl rfl rfl (op_load_m1 (i := 0) rfl ta_31 rfl rfl rfl ⟨rfl, rfl⟩) ?_) | (refine EOps.d 50 (some 3) (i := 4) rfl rfl rfl rfl rfl (op_load_m1 (i := 0) rfl ta_31 rfl rfl rfl ⟨rfl, rfl⟩) ?_) | (refine EOps.d 50 (some 4) (i := 4) rfl rfl rfl rfl rfl (op_load_m1 (i := 0) rfl ta_31 rfl rfl rfl ⟨rfl, rfl⟩) ?_) | (refine EOps.d 50 (some 5) (i := 4) rfl rfl rfl rfl rfl (op_load_m1 (i := 0) rfl ta_31 rfl rfl rfl ⟨rfl, rfl⟩) ?_) | (refine EOps.d 50 (some 6) (i := 4) rfl rfl rfl rfl rfl (op_load_m1 (i := 0) rfl ta_31 rfl rfl rfl ⟨rfl, rfl⟩) ?_) | (refine EOps.d 50 (some 7) (i := 4) rfl rfl rfl rfl rfl (op_load_m1 (i := 0) rfl ta_31 rfl rfl rfl ⟨rfl, rfl⟩) ?_) | (refine EOps.d 50 (some 8) (i := 4) rfl rfl rfl rfl rfl (op_load_m1 (i := 0) rfl ta_31 rfl rfl rfl ⟨rfl, rfl⟩) ?_) | (refine EOps.d 50 (some 9) (i := 4) rfl rfl rfl rfl rfl (op_load_m1 (i := 0) rfl ta_31 rfl rfl rfl ⟨rfl, rfl⟩) ?_) | (refine EOps.d 50 (none) (i := 4) rfl rfl rfl rfl rfl (op_load_c1 rfl ta_31 rfl rfl ⟨rfl, rfl⟩) ?_)
    refine EOps.d 51 (none) (i := 5) rfl rfl rfl rfl rfl (op_move rfl rfl ⟨rfl, rfl⟩) ?_
    refine EOps.d 52 (none) (i := 6) rfl rfl rfl rfl rfl (op_move rfl rfl ⟨rfl, rfl⟩) ?_
    refine EOps.d 53 (none) (i := 7) rfl rfl rfl rfl rfl (op_move rfl rfl ⟨rfl, rfl⟩) ?_
    refine EOps.d 54 (none) (i := 8) rfl rfl rfl rfl rfl (op_move rfl rfl ⟨rfl, rfl⟩) ?_
    refine EOps.d 55 (none) (i := 9) rfl rfl rfl rfl rfl (op_move rfl rfl ⟨rfl, rfl⟩) ?_
    first | (refine EOps.w 0 (i := 10) rfl rfl rfl rfl rfl (op_append (i := 0) el_34 rfl rfl rfl rfl (.seq _ _) (by first | (simp; done) | (simp; omega) | omega) (fun u56 => ⟨_, rfl, ?_⟩))) | (refine EOps.w 1 (i := 10) rfl rfl rfl rfl rfl (op_append (i := 0) el_34 rfl rfl rfl rfl (.seq _ _) (by first | (simp; done) | (simp; omega) | omega) (fun u56 => ⟨_, rfl, ?_⟩))) | (refine EOps.w 2 (i := 10) rfl rfl rfl rfl rfl (op_append (i := 0) el_34 rfl rfl rfl rfl (.seq _ _) (by first | (simp; done) | (simp; omega) | omega) (fun u56 => ⟨_, rfl, ?_⟩))) | (refine EOps.w 3 (i := 10) rfl rfl rfl rfl rfl (op_append (i := 0) el_34 rfl rfl rfl rfl (.seq _ _) (by first | (simp; done) | (simp; omega) | omega) (fun u56 => ⟨_, rfl, ?_⟩))) | (refine EOps.w 4 (i := 10) rfl rfl rfl rfl rfl (op_append (i := 0) el_34 rfl rfl rfl rfl (.seq _ _) (by first | (simp; done) | (simp; omega) | omega) (fun u56 => ⟨_, rfl, ?_⟩))) | (refine EOps.w 5 (i := 10) rfl rfl rfl rfl rfl (op_append (i := 0) el_34 rfl rfl rfl rfl (.seq _ _) (by first | (simp; done) | (simp; omega) | omega) (fun u56 => ⟨_, rfl, ?_⟩))) | (refine EOps.w 6 (i := 10) rfl rfl rfl rfl rfl (op_append (i := 0) el_34 rfl rfl rfl rfl (.seq _ _) (by first | (simp; done) | (simp; omega) | omega) (fun u56 => ⟨_, rfl, ?_⟩))) | (refine EOps.w 7 (i := 10) rfl rfl rfl rfl rfl (op_append (i := 0) el_34 rfl rfl rfl rfl (.seq _ _) (by first | (simp; done) | (simp; omega) | omega) (fun u56 => ⟨_, rfl, ?_⟩))) | (refine EOps.w 8 (i := 10) rfl rfl rfl rfl rfl (op_append (i := 0) el_34 rfl rfl rfl rfl (.seq _ _) (by first | (simp; done) | (simp; omega) | omega) (fun u56 => ⟨_, rfl, ?_⟩))) | (refine EOps.w 9 (i := 10) rfl rfl rfl rfl rfl (op_append (i := 0) el_34 rfl rfl rfl rfl (.seq _ _) (by first | (simp; done) | (simp; omega) | omega) (fun u56 => ⟨_, rfl, ?_⟩))) | (refine EOps.w 0 (i := 10) rfl rfl rfl rfl rfl (op_append (i := 0) el_34 rfl rfl rfl rfl (.own _ _ _) (by first | (simp; done) | (simp; omega) | omega) (fun u56 => ⟨_, rfl, ?_⟩))) | (refine EOps.w 1 (i := 10) rfl rfl rfl rfl rfl (op_append (i := 0) el_34 rfl rfl rfl rfl (.own _ _ _) (by first | (simp; done) | (simp; omega) | omega) (fun u56 => ⟨_, rfl, ?_⟩))) | (refine EOps.w 2 (i := 10) rfl rfl rfl rfl rfl (op_append (i := 0) el_34 rfl rfl rfl rfl (.own _ _ _) (by first | (simp; done) | (simp; omega) | omega) (fun u56 => ⟨_, rfl, ?_⟩))) | (refine EOps.w 3 (i := 10) rfl rfl rfl rfl rfl (op_append (i := 0) el_34 rfl rfl rfl rfl (.own _ _ _) (by first | (simp; done) | (simp; omega) | omega) (fun u56 => ⟨_, rfl, ?_⟩))) | (refine EOps.w 4 (i := 10) rfl rfl rfl rfl rfl (op_append (i := 0) el_34 rfl rfl rfl rfl (.own _ _ _) (by first | (simp; done) | (simp; omega) | omega) (fun u56 => ⟨_, rfl, ?_⟩))) | (refine EOps.w 5 (i := 10) rfl rfl rfl rfl rfl (op_append (i := 0) el_34 rfl rfl rfl rfl (.own _ _ _) (by first | (simp; done) | (simp; omega) | omega) (fun u56 => ⟨_, rfl, ?_⟩))) | (refine EOps.w 6 (i := 10) rfl rfl rfl rfl rfl (op_append (i := 0) el_34 rfl rfl rfl rfl (.own _ _ _) (by first | (simp; done) | (simp; omega) | omega) (fun u56 => ⟨_, rfl, ?_⟩))) | (refine EOps.w 7 (i := 10) rfl rfl rfl rfl rfl (op_append (i := 0) el_34 rfl rfl rfl rfl (.own _ _ _) (by first | (simp; done) | (simp; omega) | omega) (fun u56 => ⟨_, rfl, ?_⟩))) | (refine EOps.w 8 (i := 10) rfl rfl rfl rfl rfl (op_append (i := 0) el_34 rfl rfl rfl rfl (.own _ _ _) (by first | (simp; done) | (simp; omega) | omega) (fun u56 => ⟨_, rfl, ?_⟩))) | (refine EOps.w 9 (i := 10) rfl rfl rfl rfl rfl (op_append (i := 0) el_34 rfl rfl rfl rfl (.own _ _ _) (by first | (simp; done) | (simp; omega) | omega) (fun u56 => ⟨_, rfl, ?_⟩))) | (refine EOps.w 0 (i := 10) rfl rfl rfl rfl rfl (op_append (i := 0) el_34 rfl rfl rfl rfl (.nil _) (by first | (simp; done) | (simp; omega) | omega) (fun u56 => ⟨_, rfl, ?_⟩))) | (refine EOps.w 1 (i := 10) rfl rfl rfl rfl rfl (op_append (i := 0) el_34 rfl rfl rfl rfl (.nil _) (by first | (simp; done) | (simp; omega) | omega) (fun u56 => ⟨_, rfl, ?_⟩))) | (refine EOps.w 2 (i := 10) rfl rfl rfl rfl rfl (op_append (i := 0) el_34 rfl rfl rfl rfl (.nil _) (by first | (simp; done) | (simp; omega) | omega) (fun u56 => ⟨_, rfl, ?_⟩))) | (refine EOps.w 3 (i := 10) rfl rfl rfl rfl rfl (op_append (i := 0) el_34 rfl rfl rfl rfl (.nil _) (by first | (simp; done) | (simp; omega) | omega) (fun u56 => ⟨_, rfl, ?_⟩))) | (refine EOps.w 4 (i := 10) rfl rfl rfl rfl rfl (op_append (i := 0) el_34 rfl rfl rfl rfl (.nil _) (by first | (simp; done) | (simp; omega) | omega) (fun u56 => ⟨_, rfl, ?_⟩))) | (refine EOps.w 5 (i := 10) rfl rfl rfl rfl rfl (op_append (i := 0) el_34 rfl rfl rfl rfl (.nil _) (by first | (simp; done) | (simp; omega) | omega) (fun u56 => ⟨_, rfl, ?_⟩))) | (refine EOps.w 6 (i := 10) rfl rfl rfl rfl rfl (op_append (i := 0) el_34 rfl rfl rfl rfl (.nil _) (by first | (simp; done) | (simp; omega) | omega) (fun u56 => ⟨_, rfl, ?_⟩))) | (refine EOps.w 7 (i := 10) rfl rfl rfl rfl rfl (op_append (i := 0) el_34 rfl rfl rfl rfl (.nil _) (by first | (simp; done) | (simp; omega) | omega) (fun u56 => ⟨_, rfl, ?_⟩))) | (refine EOps.w 8 (i := 10) rfl rfl rfl rfl rfl (op_append (i := 0) el_34 rfl rfl rfl rfl (.nil _) (by first | (simp; done) | (simp; omega) | omega) (fun u56 => ⟨_, rfl, ?_⟩))) | (refine EOps.w 9 (i := 10) rfl rfl rfl rfl rfl (op_append (i := 0) el_34 rfl rfl rfl rfl (.nil _) (by first | (simp; done) | (simp; omega) | omega) (fun u56 => ⟨_, rfl, ?_⟩))) | (refine EOps.nw (i := 10) rfl rfl rfl (op_append_nil el_34 rfl rfl rfl (.seq _ _) (by first | (simp; done) | (simp; omega) | omega) (fun u56 => ⟨_, rfl, ?_⟩))) | (refine EOps.nw (i := 10) rfl rfl rfl (op_append_nil el_34 rfl rfl rfl (.own _ _ _) (by first | (simp; done) | (simp; omega) | omega) (fun u56 => ⟨_, rfl, ?_⟩))) | (refine EOps.nw (i := 10) rfl rfl rfl (op_append_nil el_34 rfl rfl rfl (.nil _) (by first | (simp; done) | (simp; omega) | omega) (fun u56 => ⟨_, rfl, ?_⟩)))
    refine EOps.d 57 (none) (i := 11) rfl rfl rfl rfl rfl (op_build (ns := [0, 1, 2, 3]) (xs := [.tmp 51, .tmp 52, .tmp 53, .tmp 56]) rfl tz_86 rfl tfl_86 rfl rfl rfl rfl ⟨rfl, rfl⟩) ?_
    refine EOps.d 58 (none) (i := 12) rfl rfl rfl rfl rfl (op_buildSlice (xs := [.tmp 57]) el_31 rfl rfl rfl rfl rfl rfl (Nat.le_of_ble_eq_true rfl) ⟨rfl, rfl⟩) ?_
    first | (refine EOps.w 0 (i := 13) rfl rfl rfl rfl rfl (op_append (i := 0) el_31 rfl rfl rfl rfl (.seq _ _) (by first | (simp; done) | (simp; omega) | omega) (fun u59 => ⟨_, rfl, ?_⟩))) | (refine EOps.w 1 (i := 13) rfl rfl rfl rfl rfl (op_append (i := 0) el_31 rfl rfl rfl rfl (.seq _ _) (by first | (simp; done) | (simp; omega) | omega) (fun u59 => ⟨_, rfl, ?_⟩))) | (refine EOps.w 2 (i := 13) rfl rfl rfl rfl rfl (op_append (i := 0) el_31 rfl rfl rfl rfl (.seq _ _) (by first | (simp; done) | (simp; omega) | omega) (fun u59 => ⟨_, rfl, ?_⟩))) | (refine EOps.w 3 (i := 13) rfl rfl rfl rfl rfl (op_append (i := 0) el_31 rfl rfl rfl rfl (.seq _ _) (by first | (simp; done) | (simp; omega) | omega) (fun u59 => ⟨_, rfl, ?_⟩))) | (refine EOps.w 4 (i := 13) rfl rfl rfl rfl rfl (op_append (i := 0) el_31 rfl rfl rfl rfl (.seq _ _) (by first | (simp; done) | (simp; omega) | omega) (fun u59 => ⟨_, rfl, ?_⟩))) | (refine EOps.w 5 (i := 13) rfl rfl rfl rfl rfl (op_append (i := 0) el_31 rfl rfl rfl rfl (.seq _ _) (by first | (simp; done) | (simp; omega) | omega) (fun u59 => ⟨_, rfl, ?_⟩))) | (refine EOps.w 6 (i := 13) rfl rfl rfl rfl rfl (op_append (i := 0) el_31 rfl rfl rfl rfl (.seq _ _) (by first | (simp; done) | (simp; omega) | omega) (fun u59 => ⟨_, rfl, ?_⟩))) | (refine EOps.w 7 (i := 13) rfl rfl rfl rfl rfl (op_append (i := 0) el_31 rfl rfl rfl rfl (.seq _ _) (by first | (simp; done) | (simp; omega) | omega) (fun u59 => ⟨_, rfl, ?_⟩))) | (refine EOps.w 8 (i := 13) rfl rfl rfl rfl rfl (op_append (i := 0) el_31 rfl rfl rfl rfl (.seq _ _) (by first | (simp; done) | (simp; omega) | omega) (fun u59 => ⟨_, rfl, ?_⟩))) | (refine EOps.w 9 (i := 13) rfl rfl rfl rfl rfl (op_append (i := 0) el_31 rfl rfl rfl rfl (.seq _ _) (by first | (simp; done) | (simp; omega) | omega) (fun u59 => ⟨_, rfl, ?_⟩))) | (refine EOps.w 0 (i := 13) rfl rfl rfl rfl rfl (op_append (i := 0) el_31 rfl rfl rfl rfl (.own _ _ _) (by first | (simp; done) | (simp; omega) | omega) (fun u59 => ⟨_, rfl, ?_⟩))) | (refine EOps.w 1 (i := 13) rfl rfl rfl rfl rfl (op_append (i := 0) el_31 rfl rfl rfl rfl (.own _ _ _) (by first | (simp; done) | (simp; omega) | omega) (fun u59 => ⟨_, rfl, ?_⟩))) | (refine EOps.w 2 (i := 13) rfl rfl rfl rfl rfl (op_append (i := 0) el_31 rfl rfl rfl rfl (.own _ _ _) (by first | (simp; done) | (simp; omega) | omega) (fun u59 => ⟨_, rfl, ?_⟩))) | (refine EOps.w 3 (i := 13) rfl rfl rfl rfl rfl (op_append (i := 0) el_31 rfl rfl rfl rfl (.own _ _ _) (by first | (simp; done) | (simp; omega) | omega) (fun u59 => ⟨_, rfl, ?_⟩))) | (refine EOps.w 4 (i := 13) rfl rfl rfl rfl rfl (op_append (i := 0) el_31 rfl rfl rfl rfl (.own _ _ _) (by first | (simp; done) | (simp; omega) | omega) (fun u59 => ⟨_, rfl, ?_⟩))) | (refine EOps.w 5 (i := 13) rfl rfl rfl rfl rfl (op_append (i := 0) el_31 rfl rfl rfl rfl (.own _ _ _) (by first | (simp; done) | (simp; omega) | omega) (fun u59 => ⟨_, rfl, ?_⟩))) | (refine EOps.w 6 (i := 13) rfl rfl rfl rfl rfl (op_append (i := 0) el_31 rfl rfl rfl rfl (.own _ _ _) (by first | (simp; done) | (simp; omega) | omega) (fun u59 => ⟨_, rfl, ?_⟩))) | (refine EOps.w 7 (i := 13) rfl rfl rfl rfl rfl (op_append (i := 0) el_31 rfl rfl rfl rfl (.own _ _ _) (by first | (simp; done) | (simp; omega) | omega) (fun u59 => ⟨_, rfl, ?_⟩))) | (refine EOps.w 8 (i := 13) rfl rfl rfl rfl rfl (op_append (i := 0) el_31 rfl rfl rfl rfl (.own _ _ _) (by first | (simp; done) | (simp; omega) | omega) (fun u59 => ⟨_, rfl, ?_⟩))) | (refine EOps.w 9 (i := 13) rfl rfl rfl rfl rfl (op_append (i := 0) el_31 rfl rfl rfl rfl (.own _ _ _) (by first | (simp; done) | (simp; omega) | omega) (fun u59 => ⟨_, rfl, ?_⟩))) | (refine EOps.w 0 (i := 13) rfl rfl rfl rfl rfl (op_append (i := 0) el_31 rfl rfl rfl rfl (.nil _) (by first | (simp; done) | (simp; omega) | omega) (fun u59 => ⟨_, rfl, ?_⟩))) | (refine EOps.w 1 (i := 13) rfl rfl rfl rfl rfl (op_append (i := 0) el_31 rfl rfl rfl rfl (.nil _) (by first | (simp; done) | (simp; omega) | omega) (fun u59 => ⟨_, rfl, ?_⟩))) | (refine EOps.w 2 (i := 13) rfl rfl rfl rfl rfl (op_append (i := 0) el_31 rfl rfl rfl rfl (.nil _) (by first | (simp; done) | (simp; omega) | omega) (fun u59 => ⟨_, rfl, ?_⟩))) | (refine EOps.w 3 (i := 13) rfl rfl rfl rfl rfl (op_append (i := 0) el_31 rfl rfl rfl rfl (.nil _) (by first | (simp; done) | (simp; omega) | omega) (fun u59 => ⟨_, rfl, ?_⟩))) | (refine EOps.w 4 (i := 13) rfl rfl rfl rfl rfl (op_append (i := 0) el_31 rfl rfl rfl rfl (.nil _) (by first | (simp; done) | (simp; omega) | omega) (fun u59 => ⟨_, rfl, ?_⟩))) | (refine EOps.w 5 (i := 13) rfl rfl rfl rfl rfl (op_append (i := 0) el_31 rfl rfl rfl rfl (.nil _) (by first | (simp; done) | (simp; omega) | omega) (fun u59 => ⟨_, rfl, ?_⟩))) | (refine EOps.w 6 (i := 13) rfl rfl rfl rfl rfl (op_append (i := 0) el_31 rfl rfl rfl rfl (.nil _) (by first | (simp; done) | (simp; omega) | omega) (fun u59 => ⟨_, rfl, ?_⟩))) | (refine EOps.w 7 (i := 13) rfl rfl rfl rfl rfl (op_append (i := 0) el_31 rfl rfl rfl rfl (.nil _) (by first | (simp; done) | (simp; omega) | omega) (fun u59 => ⟨_, rfl, ?_⟩))) | (refine EOps.w 8 (i := 13) rfl rfl rfl rfl rfl (op_append (i := 0) el_31 rfl rfl rfl rfl (.nil _) (by first | (simp; done) | (simp; omega) | omega) (fun u59 => ⟨_, rfl, ?_⟩))) | (refine EOps.w 9 (i := 13) rfl rfl rfl rfl rfl (op_append (i := 0) el_31 rfl rfl rfl rfl (.nil _) (by first | (simp; done) | (simp; omega) | omega) (fun u59 => ⟨_, rfl, ?_⟩))) | (refine EOps.nw (i := 13) rfl rfl rfl (op_append_nil el_31 rfl rfl rfl (.seq _ _) (by first | (simp; done) | (simp; omega) | omega) (fun u59 => ⟨_, rfl, ?_⟩))) | (refine EOps.nw (i := 13) rfl rfl rfl (op_append_nil el_31 rfl rfl rfl (.own _ _ _) (by first | (simp; done) | (simp; omega) | omega) (fun u59 => ⟨_, rfl, ?_⟩))) | (refine EOps.nw (i := 13) rfl rfl rfl (op_append_nil el_31 rfl rfl rfl (.nil _) (by first | (simp; done) | (simp; omega) | omega) (fun u59 => ⟨_, rfl, ?_⟩)))
    first | (refine EOps.d 60 (none) (i := 14) rfl rfl rfl rfl rfl (op_nilCheck_m rfl rfl ⟨rfl, rfl⟩) ?_) | (refine EOps.d 60 (none) (i := 14) rfl rfl rfl rfl rfl (op_nilCheck_c rfl rfl ⟨rfl, rfl⟩) ?_) | (refine EOps.d 60 (none) (i := 14) rfl rfl rfl rfl rfl (op_nilCheck_f rfl rfl ⟨rfl, rfl⟩) ?_)
    first | (refine EOps.d 61 (none) (i := 15) rfl rfl rfl rfl rfl (op_fieldAddr_m rfl tf_33_1 rfl ⟨rfl, rfl⟩) ?_) | (refine EOps.d 61 (none) (i := 15) rfl rfl rfl rfl rfl (op_fieldAddr_c rfl tf_33_1 rfl rfl ⟨rfl, rfl⟩) ?_)
    first | (refine EOps.w 0 (i := 16) rfl rfl rfl rfl rfl (op_store (i := 0) rfl ts_31 rfl rfl rfl rfl rfl (Nat.le_of_ble_eq_true rfl) rfl ⟨_, rfl, ?_⟩)) | (refine EOps.w 1 (i := 16) rfl rfl rfl rfl rfl (op_store (i := 0) rfl ts_31 rfl rfl rfl rfl rfl (Nat.le_of_ble_eq_true rfl) rfl ⟨_, rfl, ?_⟩)) | (refine EOps.w 2 (i := 16) rfl rfl rfl rfl rfl (op_store (i := 0) rfl ts_31 rfl rfl rfl rfl rfl (Nat.le_of_ble_eq_true rfl) rfl ⟨_, rfl, ?_⟩)) | (refine EOps.w 3 (i := 16) rfl rfl rfl rfl rfl (op_store (i := 0) rfl ts_31 rfl rfl rfl rfl rfl (Nat.le_of_ble_eq_true rfl) rfl ⟨_, rfl, ?_⟩)) | (refine EOps.w 4 (i := 16) rfl rfl rfl rfl rfl (op_store (i := 0) rfl ts_31 rfl rfl rfl rfl rfl (Nat.le_of_ble_eq_true rfl) rfl ⟨_, rfl, ?_⟩)) | (refine EOps.w 5 (i := 16) rfl rfl rfl rfl rfl (op_store (i := 0) rfl ts_31 rfl rfl rfl rfl rfl (Nat.le_of_ble_eq_true rfl) rfl ⟨_, rfl, ?_⟩)) | (refine EOps.w 6 (i := 16) rfl rfl rfl rfl rfl (op_store (i := 0) rfl ts_31 rfl rfl rfl rfl rfl (Nat.le_of_ble_eq_true rfl) rfl ⟨_, rfl, ?_⟩)) | (refine EOps.w 7 (i := 16) rfl rfl rfl rfl rfl (op_store (i := 0) rfl ts_31 rfl rfl rfl rfl rfl (Nat.le_of_ble_eq_true rfl) rfl ⟨_, rfl, ?_⟩)) | (refine EOps.w 8 (i := 16) rfl rfl rfl rfl rfl (op_store (i := 0) rfl ts_31 rfl rfl rfl rfl rfl (Nat.le_of_ble_eq_true rfl) rfl ⟨_, rfl, ?_⟩)) | (refine EOps.w 9 (i := 16) rfl rfl rfl rfl rfl (op_store (i := 0) rfl ts_31 rfl rfl rfl rfl rfl (Nat.le_of_ble_eq_true rfl) rfl ⟨_, rfl, ?_⟩))
    show AGo _ _ _ _ _ _ _
    refine go_code ?_
    refine c_seq ?_
    refine c_region ?_
    refine AOps.st 62 rfl rfl rfl (op_move rfl rfl ?_)
    first | (refine AOps.st 63 rfl rfl rfl (op_mul rfl rfl rfl (IntWalk.i64_in _ (by omega)) ?_)) | (refine AOps.st 63 rfl rfl rfl (op_mul rfl rfl rfl rfl ?_))
    first | (refine AOps.st 64 rfl rfl rfl (op_convert rfl tu_3 tu_42 rfl (IntWalk.u64_in _ (by omega)) ?_)) | (refine AOps.st 64 rfl rfl rfl (op_convert rfl tu_3 tu_42 rfl rfl ?_))
    refine AOps.st 8 rfl rfl rfl (op_assign rfl rfl ?_)
    refine AOps.nil ?_
    refine go_code ?_
    refine c_ret ?_
    refine out_tmp (M' := [.loc br [.val (.int .i64 sz), .own u59 4 (oRows 1 (H ++ [⟨kd, tg, ps⟩]))], .own 86 4 u59]) rfl rfl (Le.ieq (by omega)) ?_ (.inl ⟨Classical.not_not.1 g42, rfl, _, rfl⟩)
    rw [happ]
    exact MLe.loc _ (Les.cons (Le.refl _) (Les.cons (Le.owns (Less.app (Less.refl _) (Less.cons (Les.cons (Le.ieq (by omega)) (Les.cons (Le.refl _) (Les.cons (Le.refl _) (Les.cons (Le.own_seq (by simp)) (Les.refl _))))) rfl Less.nil))) (Les.refl _))) (.cons _ (MLe.none _))
  · refine c_cond_t rfl ?_
    refine c_seq ?_
    refine c_region ?_
    refine AOps.st 8 rfl rfl rfl (op_assign rfl rfl ?_)
    refine AOps.nil ?_
    refine go_code ?_
    refine c_ret ?_
    exact out_tmp rfl rfl (Le.refl _) (by first | exact MLe.none _ | exact MLe.refl _ | (repeat' (first | exact MLe.nil | exact MLe.refl _ | refine MLe.cons _ ?_ | refine MLe.drop _ ?_))) (.inr ⟨g42, rfl, rfl⟩)
end Go.Proofs.Ytecpnlhjjmcllaa
namespace Go.Proofs.Ytecpnlhjjmcllaa
open Go.RowKit
theorem HeapAt.three {b : Nat} {sz : Int} {H : List HO} {M : Mem} (h : HeapAt b sz H M) : ∃ r0 r1 r2, M = [r0, r1, r2] := by
  obtain ⟨_, _, _, _, _, _, _, rfl⟩ := h
  exact ⟨_, _, _, rfl⟩
theorem RefAt.two {b : Nat} {sz : Int} {H : List HO} {M : Mem} (h : RefAt b sz H M) : ∃ r0 r1, M = [r0, r1] := by
  obtain ⟨_, rfl⟩ := h
  exact ⟨_, _, rfl⟩
set_option maxHeartbeats 4000000 in
set_option maxRecDepth 100000 in
theorem Need_c (n : Int) (h : n ≤ 9000000000000000000) (hl : -9223372036854775808 ≤ n) : PCall Try.prog 29 [.val (.int .i64 n)] (.val (.int .i64 (need n))) := by
  have hm : (0 : Int) ≤ max n 0 ∧ max n 0 ≤ 9000000000000000000 := by omega
  unfold need
  refine ACall.enter Try.func29 rfl (by kernel_rfl) rfl (Nat.le_of_ble_eq_true rfl) ?_
  refine c_start ?_
  refine c_seq ?_
  refine c_region ?_
  refine AOps.st 2 rfl rfl rfl (op_assign rfl rfl ?_)
  refine AOps.nil ?_
  refine go_code ?_
  refine c_seq ?_
  refine c_region ?_
  refine AOps.st 4 rfl rfl rfl (op_move rfl rfl ?_)
  refine AOps.st 5 rfl rfl rfl (op_max rfl rfl rfl ?_)
  refine AOps.st 0 rfl rfl rfl (op_assign rfl rfl ?_)
  refine AOps.nil ?_
  refine go_code ?_
  refine c_seq ?_
  refine c_region ?_
  refine AOps.st 6 rfl rfl rfl (op_move rfl rfl ?_)
  first | (refine AOps.st 7 rfl rfl rfl (op_quo rfl rfl rfl (by omega) (IntWalk.i64_quo _ _ (by omega)) ?_)) | (refine AOps.st 7 rfl rfl rfl (op_quo rfl rfl rfl (by omega) rfl ?_))
  refine AOps.st 3 rfl rfl rfl (op_assign rfl rfl ?_)
  refine AOps.nil ?_
  refine go_code ?_
  refine c_seq ?_
  refine c_seq ?_
  refine c_region ?_
  refine AOps.st 8 rfl rfl rfl (op_move rfl rfl ?_)
  first | (refine AOps.st 9 rfl rfl rfl (op_rem rfl rfl rfl (by omega) (Int.tmod_eq_emod_of_nonneg (by omega)) ?_)) | (refine AOps.st 9 rfl rfl rfl (op_rem rfl rfl rfl (by omega) rfl ?_))
  refine AOps.st 10 rfl rfl rfl (op_gtr rfl rfl rfl ?_); intro c10 h10
  refine AOps.nil ?_
  refine go_code ?_
  apply c_joinkm [0, 1, 3, 4, 5, 6, 7, 8, 9, 10, 11, 12] (σ := Unit) (fun zz => match zz with | z => [(3, .val (.int .i64 ((max n 0 + 7) / 8)))]) (fun zz => match zz with | z => True)
  · repeat' (first | exact Drops.nil | apply Drops.keep rfl | apply Drops.skip rfl)
  · skip
    rcases bool_split h10 with ⟨rfl, g10⟩ | ⟨rfl, g10⟩
    · refine c_cond_f rfl ?_
      refine c_skip ?_
      refine go_lp ?_
      exact ⟨(), trivial, SLe.cons rfl (Le.ieq (by omega)) (by repeat' (first | exact SLe.nil _ | refine SLe.cons rfl ?_ ?_ | exact Le.refl _ | exact Le.own _ _ _ | exact Le.nil _)), (by first | exact MLe.none _ | exact MLe.refl _ | (repeat' (first | exact MLe.nil | exact MLe.refl _ | refine MLe.cons _ ?_ | refine MLe.drop _ ?_)))⟩
    · refine c_cond_t rfl ?_
      refine c_region ?_
      refine AOps.st 11 rfl rfl rfl (op_move rfl rfl ?_)
      first | (refine AOps.st 12 rfl rfl rfl (op_add rfl rfl rfl (IntWalk.i64_in _ (by omega)) ?_)) | (refine AOps.st 12 rfl rfl rfl (op_add rfl rfl rfl rfl ?_))
      refine AOps.st 3 rfl rfl rfl (op_assign rfl rfl ?_)
      refine AOps.nil ?_
      refine go_lp ?_
      exact ⟨(), trivial, SLe.cons rfl (Le.ieq (by omega)) (by repeat' (first | exact SLe.nil _ | refine SLe.cons rfl ?_ ?_ | exact Le.refl _ | exact Le.own _ _ _ | exact Le.nil _)), (by first | exact MLe.none _ | exact MLe.refl _ | (repeat' (first | exact MLe.nil | exact MLe.refl _ | refine MLe.cons _ ?_ | refine MLe.drop _ ?_)))⟩
  rintro z hI
  try dsimp only [List.cons_append, List.nil_append] at hI ⊢
  refine go_code ?_
  refine c_seq ?_
  refine c_region ?_
  refine AOps.st 13 rfl rfl rfl (op_move rfl rfl ?_)
  first | (refine AOps.st 14 rfl rfl rfl (op_add rfl rfl rfl (IntWalk.i64_in _ (by omega)) ?_)) | (refine AOps.st 14 rfl rfl rfl (op_add rfl rfl rfl rfl ?_))
  refine AOps.st 2 rfl rfl rfl (op_assign rfl rfl ?_)
  refine AOps.nil ?_
  refine go_code ?_
  refine c_ret ?_
  exact out_tmp rfl rfl (Le.refl _) (by first | exact MLe.none _ | exact MLe.refl _ | (repeat' (first | exact MLe.nil | exact MLe.refl _ | refine MLe.cons _ ?_ | refine MLe.drop _ ?_))) ⟨rfl, rfl⟩
set_option maxHeartbeats 4000000 in
set_option maxRecDepth 100000 in
theorem rNeed_c (n : Int) (h : n ≤ 1000000000) : PCall Try.prog 30 [.val (.int .i64 n)] (.val (.int .i64 (need n))) := by
  refine ACall.enter Try.func30 rfl (by kernel_rfl) rfl (Nat.le_of_ble_eq_true rfl) ?_
  refine c_start ?_
  refine c_seq ?_
  refine c_region ?_
  refine AOps.st 2 rfl rfl rfl (op_assign rfl rfl ?_)
  refine AOps.nil ?_
  refine go_code ?_
  refine c_seq ?_
  refine c_region ?_
  refine AOps.st 3 rfl rfl rfl (op_assign rfl rfl ?_)
  refine AOps.nil ?_
  refine go_code ?_
  refine c_seq ?_
  refine c_seq ?_
  refine c_region ?_
  refine AOps.st 4 rfl rfl rfl (op_assign rfl rfl ?_)
  refine AOps.nil ?_
  refine go_code ?_
  refine c_block ?_
  apply c_loopkm [1, 3, 4, 5, 6, 7, 8, 9, 10, 11] (σ := Nat) (fun zz => match zz with | k => [(3, .val (.int .i64 (k + 2))), (4, .val (.int .i64 (8 * (k : Int))))]) (fun zz => match zz with | k => (8 * (k : Int)) ≤ max n 0 + 7) (fun zz => match zz with | k => (n + 8 - 8 * k).toNat) (0)
  · repeat' (first | exact Drops.nil | apply Drops.keep rfl | apply Drops.skip rfl)
  · omega
  · exact (by repeat' (first | exact SLe.nil _ | refine SLe.cons rfl ?_ ?_ | exact Le.refl _ | exact Le.own _ _ _ | exact Le.nil _))
  rintro k hI
  try dsimp only [List.cons_append, List.nil_append] at hI ⊢
  refine c_seq ?_
  refine c_seq ?_
  refine c_region ?_
  refine AOps.st 5 rfl rfl rfl (op_move rfl rfl ?_)
  refine AOps.st 6 rfl rfl rfl (op_move rfl rfl ?_)
  refine AOps.st 7 rfl rfl rfl (op_lss rfl rfl rfl ?_); intro c7 h7
  refine AOps.nil ?_
  refine go_code ?_
  rcases bool_split h7 with ⟨rfl, g7⟩ | ⟨rfl, g7⟩
  · refine c_cond_f rfl ?_
    refine c_exit ?_
    refine x_code ?_
    refine x_lp ?_
    refine x_here ?_
    refine go_code ?_
    refine c_seq ?_
    refine c_region ?_
    refine AOps.st 12 rfl rfl rfl (op_move rfl rfl ?_)
    refine AOps.st 2 rfl rfl rfl (op_assign rfl rfl ?_)
    refine AOps.nil ?_
    refine go_code ?_
    refine c_ret ?_
    exact out_tmp rfl rfl (Le.ieq (by unfold need; omega)) (by first | exact MLe.none _ | exact MLe.refl _ | (repeat' (first | exact MLe.nil | exact MLe.refl _ | refine MLe.cons _ ?_ | refine MLe.drop _ ?_))) ⟨rfl, rfl⟩
  · refine c_cond_t rfl ?_
    refine c_skip ?_
    refine go_code ?_
    refine c_seq ?_
    refine c_block ?_
    refine c_region ?_
    refine AOps.st 10 rfl rfl rfl (op_move rfl rfl ?_)
    first | (refine AOps.st 11 rfl rfl rfl (op_add rfl rfl rfl (IntWalk.i64_in _ (by omega)) ?_)) | (refine AOps.st 11 rfl rfl rfl (op_add rfl rfl rfl rfl ?_))
    refine AOps.st 3 rfl rfl rfl (op_assign rfl rfl ?_)
    refine AOps.nil ?_
    refine go_blk ?_
    refine go_code ?_
    refine c_region ?_
    refine AOps.st 8 rfl rfl rfl (op_move rfl rfl ?_)
    first | (refine AOps.st 9 rfl rfl rfl (op_add rfl rfl rfl (IntWalk.i64_in _ (by omega)) ?_)) | (refine AOps.st 9 rfl rfl rfl (op_add rfl rfl rfl rfl ?_))
    refine AOps.st 4 rfl rfl rfl (op_assign rfl rfl ?_)
    refine AOps.nil ?_
    refine go_lp ?_
    exact ⟨k + 1, by omega, by show (n + 8 - 8 * ((k + 1 : Nat) : Int)).toNat < (n + 8 - 8 * (k : Int)).toNat; omega, SLe.cons rfl (Le.ieq (by omega)) (SLe.cons rfl (Le.ieq (by omega)) (by repeat' (first | exact SLe.nil _ | refine SLe.cons rfl ?_ ?_ | exact Le.refl _ | exact Le.own _ _ _ | exact Le.nil _))), (by first | exact MLe.none _ | exact MLe.refl _ | (repeat' (first | exact MLe.nil | exact MLe.refl _ | refine MLe.cons _ ?_ | refine MLe.drop _ ?_)))⟩
/-- what a new object comes to -/
def AllocR (sz : Int) (H : List HO) (o : HO) (ok : Bool) (w : Int) (H' : List HO) : Prop :=
  (Fits31 sz H o.kind o.tag o.parts ∧ ok = true ∧ w = 2 * (used H + 1 : Int) ∧ H' = H ++ [o]) ∨ (¬ Fits31 sz H o.kind o.tag o.parts ∧ ok = false ∧ w = 0 ∧ H' = H)
theorem AllocR.same {sz : Int} {H : List HO} {o : HO} {ok ok2 : Bool} {w w2 : Int} {H1 H2 : List HO} (h : AllocR sz H o ok w H1) (k : AllocR sz H o ok2 w2 H2) : ok2 = ok ∧ w2 = w ∧ H2 = H1 := by
  rcases h with ⟨h, rfl, rfl, rfl⟩ | ⟨h, rfl, rfl, rfl⟩ <;> rcases k with ⟨k, rfl, rfl, rfl⟩ | ⟨k, rfl, rfl, rfl⟩
  · exact ⟨rfl, rfl, rfl⟩
  · exact absurd h k
  · exact absurd k h
  · exact ⟨rfl, rfl, rfl⟩
theorem Alloc_u (b : Nat) (sz : Int) (H : List HO) (M : Mem) (hM : HeapAt b sz H M) (h : 0 < sz) (hs : sz ≤ 16777216) (hu : used H ≤ 16777216) (o : HO) (hk1 : -9223372036854775808 ≤ o.kind) (hk2 : o.kind ≤ 9223372036854775807) (ht1 : -9223372036854775808 ≤ o.tag) (ht2 : o.tag ≤ 9223372036854775807) (hl : o.parts.length ≤ 100000000) :
    ACall Try.prog 22 [.ptr b 0, .val (.int .i64 o.kind), .val (.int .i64 o.tag), .seq 1 (o.parts.map iv)] M (fun v M' => ∃ ok w H', AllocR sz H o ok w H' ∧ v = .tup [.val (.int .u64 w), .val (.bool ok)] ∧ HeapAt b sz H' M') :=
  (Alloc_c b sz H M hM h hs hu o.kind o.tag o.parts hk1 hk2 ht1 ht2 hl).mono (by
    rintro v M' (⟨h1, rfl, h2⟩ | ⟨h1, rfl, rfl⟩)
    · exact ⟨true, _, _, .inl ⟨h1, rfl, rfl, rfl⟩, rfl, h2⟩
    · exact ⟨false, _, _, .inr ⟨h1, rfl, rfl, rfl⟩, rfl, hM⟩)
theorem rAlloc_u (br : Nat) (sz : Int) (H : List HO) (M : Mem) (hM : RefAt br sz H M) (hs : sz ≤ 16777216) (hu : used H ≤ 16777216) (hH : H.length ≤ 16777216) (o : HO) (hl : o.parts.length ≤ 100000000) :
    ACall Try.prog 40 [.ptr br 0, .val (.int .i64 o.kind), .val (.int .i64 o.tag), .seq 1 (o.parts.map iv)] M (fun v M' => ∃ ok w H', AllocR sz H o ok w H' ∧ v = .val (.int .u64 w) ∧ RefAt br sz H' M') :=
  (rAlloc_c br sz H M hM hs hu hH o.kind o.tag o.parts hl).mono (by
    rintro v M' (⟨h1, rfl, h2⟩ | ⟨h1, rfl, rfl⟩)
    · exact ⟨true, _, _, .inl ⟨h1, rfl, rfl, rfl⟩, rfl, h2⟩
    · exact ⟨false, _, _, .inr ⟨h1, rfl, rfl, rfl⟩, rfl, hM⟩)
set_option maxHeartbeats 4000000 in
set_option maxRecDepth 100000 in
theorem Put_c (b : Nat) (sz : Int) (H : List HO) (M : Mem) (hM : HeapAt b sz H M) (h : 0 < sz) (hs : sz ≤ 16777216) (hu : used H ≤ 16777216) (s : ByteArray) (hss : s.size ≤ 100000000) :
    ACall Try.prog 37 [.ptr b 0, .val (.string s)] M (fun v M' => ∃ ok w H', AllocR sz H (textO s) ok w H' ∧ v = .tup [.val (.int .u64 w), .val (.bool ok)] ∧ HeapAt b sz H' M') := by
  have hA := Alloc_u b sz H M hM h hs hu (textO s) (by simp [textO]) (by simp [textO]) (by simp [textO]) (by simp [textO]) (by show (txt s).length ≤ _; rw [txt_len]; omega)
  have hP := Pack_o s (by omega)
  have hI := Int_p s.size
  have hti := txt_iv s
  rw [show (textO s).parts.map iv = (txt s).map iv from rfl, hti] at hA
  have hpl : ((packL (bytesN s)).map ivN).length ≤ 100000000 := by rw [List.length_map, packL_len, bytesN_len]; omega
  obtain ⟨r0, r1, r2, rfl⟩ := hM.three
  generalize (packL (bytesN s)).map ivN = EP at *
  refine ACall.enter Try.func37 rfl (by kernel_rfl) rfl (Nat.le_of_ble_eq_true rfl) ?_
  refine c_start ?_
  refine c_seq ?_
  refine c_region ?_
  refine AOps.st 4 rfl rfl rfl (op_assign rfl rfl ?_)
  refine AOps.st 5 rfl rfl rfl (op_assign rfl rfl ?_)
  refine AOps.nil ?_
  refine go_code ?_
  refine c_seq ?_
  refine c_region ?_
  refine AOps.st 6 rfl rfl rfl (op_move rfl rfl ?_)
  refine AOps.st 7 rfl rfl rfl (op_move rfl rfl ?_)
  refine AOps.st 8 rfl rfl rfl (op_len_str rfl tu_9 rfl ?_)
  refine AOps.st 9 rfl rfl rfl (op_callp (xs := [.tmp 8]) rfl rfl (hI) (by first | exact Les.refl _ | (repeat' (first | exact Les.refl _ | refine Les.cons ?_ ?_ | exact Le.refl _ | exact Le.own _ _ _ | exact Le.nil _ | refine Le.agg ?_))) ?_)
  refine AOps.st 10 rfl rfl rfl (op_buildSlice_own (xs := [.tmp 9]) el_34 rfl rfl rfl rfl rfl rfl (Nat.le_of_ble_eq_true rfl) ?_); intro u10
  refine AOps.st 11 rfl rfl rfl (op_move rfl rfl ?_)
  refine AOps.st 12 rfl rfl rfl (op_callo (xs := [.tmp 11]) rfl rfl (hP) (by first | exact Les.refl _ | (repeat' (first | exact Les.refl _ | refine Les.cons ?_ ?_ | exact Le.refl _ | exact Le.own _ _ _ | exact Le.nil _ | refine Le.agg ?_))) ?_); intro u12
  first | (refine AOps.st 13 rfl rfl rfl (op_append (i := 0) el_34 rfl rfl rfl rfl (.seq _ _) (by first | (simp; done) | (simp; omega) | omega) ?_)) | (refine AOps.st 13 rfl rfl rfl (op_append (i := 1) el_34 rfl rfl rfl rfl (.seq _ _) (by first | (simp; done) | (simp; omega) | omega) ?_)) | (refine AOps.st 13 rfl rfl rfl (op_append (i := 2) el_34 rfl rfl rfl rfl (.seq _ _) (by first | (simp; done) | (simp; omega) | omega) ?_)) | (refine AOps.st 13 rfl rfl rfl (op_append (i := 3) el_34 rfl rfl rfl rfl (.seq _ _) (by first | (simp; done) | (simp; omega) | omega) ?_)) | (refine AOps.st 13 rfl rfl rfl (op_append (i := 4) el_34 rfl rfl rfl rfl (.seq _ _) (by first | (simp; done) | (simp; omega) | omega) ?_)) | (refine AOps.st 13 rfl rfl rfl (op_append (i := 5) el_34 rfl rfl rfl rfl (.seq _ _) (by first | (simp; done) | (simp; omega) | omega) ?_)) | (refine AOps.st 13 rfl rfl rfl (op_append (i := 0) el_34 rfl rfl rfl rfl (.own _ _ _) (by first | (simp; done) | (simp; omega) | omega) ?_)) | (refine AOps.st 13 rfl rfl rfl (op_append (i := 1) el_34 rfl rfl rfl rfl (.own _ _ _) (by first | (simp; done) | (simp; omega) | omega) ?_)) | (refine AOps.st 13 rfl rfl rfl (op_append (i := 2) el_34 rfl rfl rfl rfl (.own _ _ _) (by first | (simp; done) | (simp; omega) | omega) ?_)) | (refine AOps.st 13 rfl rfl rfl (op_append (i := 3) el_34 rfl rfl rfl rfl (.own _ _ _) (by first | (simp; done) | (simp; omega) | omega) ?_)) | (refine AOps.st 13 rfl rfl rfl (op_append (i := 4) el_34 rfl rfl rfl rfl (.own _ _ _) (by first | (simp; done) | (simp; omega) | omega) ?_)) | (refine AOps.st 13 rfl rfl rfl (op_append (i := 5) el_34 rfl rfl rfl rfl (.own _ _ _) (by first | (simp; done) | (simp; omega) | omega) ?_)) | (refine AOps.st 13 rfl rfl rfl (op_append (i := 0) el_34 rfl rfl rfl rfl (.nil _) (by first | (simp; done) | (simp; omega) | omega) ?_)) | (refine AOps.st 13 rfl rfl rfl (op_append (i := 1) el_34 rfl rfl rfl rfl (.nil _) (by first | (simp; done) | (simp; omega) | omega) ?_)) | (refine AOps.st 13 rfl rfl rfl (op_append (i := 2) el_34 rfl rfl rfl rfl (.nil _) (by first | (simp; done) | (simp; omega) | omega) ?_)) | (refine AOps.st 13 rfl rfl rfl (op_append (i := 3) el_34 rfl rfl rfl rfl (.nil _) (by first | (simp; done) | (simp; omega) | omega) ?_)) | (refine AOps.st 13 rfl rfl rfl (op_append (i := 4) el_34 rfl rfl rfl rfl (.nil _) (by first | (simp; done) | (simp; omega) | omega) ?_)) | (refine AOps.st 13 rfl rfl rfl (op_append (i := 5) el_34 rfl rfl rfl rfl (.nil _) (by first | (simp; done) | (simp; omega) | omega) ?_)) | (refine AOps.st 13 rfl rfl rfl (op_append_nil el_34 rfl rfl rfl (.seq _ _) (by first | (simp; done) | (simp; omega) | omega) ?_)) | (refine AOps.st 13 rfl rfl rfl (op_append_nil el_34 rfl rfl rfl (.own _ _ _) (by first | (simp; done) | (simp; omega) | omega) ?_)) | (refine AOps.st 13 rfl rfl rfl (op_append_nil el_34 rfl rfl rfl (.nil _) (by first | (simp; done) | (simp; omega) | omega) ?_))
  intro u13
  refine AOps.st 14 rfl rfl rfl (op_callat [2,2,2] (xs := [.tmp 6, .const (.int .i64 3), .const (.int .i64 0), .tmp 13])  rfl rfl rfl hA (Les.cons (Le.refl _) (Les.cons (Le.refl _) (Les.cons (Le.refl _) (Les.cons (Le.own_seq (by simp [iv, AV.cells])) (Les.refl _))))) ?_)
  rintro v14 M14 ⟨ok, w, H', hr, rfl, hM'⟩
  refine AOps.st 15 rfl rfl rfl (op_extract rfl rfl rfl ?_)
  refine AOps.st 16 rfl rfl rfl (op_extract rfl rfl rfl ?_)
  refine AOps.st 4 rfl rfl rfl (op_assign rfl rfl ?_)
  refine AOps.st 5 rfl rfl rfl (op_assign rfl rfl ?_)
  refine AOps.nil ?_
  refine go_code ?_
  refine c_ret ?_
  exact out_tt (M' := M14) rfl rfl rfl (Le.refl _) (MLe.pre _ _) ⟨ok, w, H', hr, rfl, hM'⟩
set_option maxHeartbeats 4000000 in
set_option maxRecDepth 100000 in
theorem rPut_c (br : Nat) (sz : Int) (H : List HO) (M : Mem) (hM : RefAt br sz H M) (hs : sz ≤ 16777216) (hu : used H ≤ 16777216) (hH : H.length ≤ 16777216) (s : ByteArray) (hss : s.size ≤ 100000000) :
    ACall Try.prog 36 [.ptr br 0, .val (.string s)] M (fun v M' => ∃ ok w H', AllocR sz H (textO s) ok w H' ∧ v = .val (.int .u64 w) ∧ RefAt br sz H' M') := by
  have hA := rAlloc_u br sz H M hM hs hu hH (textO s) (by show (txt s).length ≤ _; rw [txt_len]; omega)
  have hP := rPack_o s (by omega)
  have hI := rInt_p s.size
  have hti := txt_iv s
  rw [show (textO s).parts.map iv = (txt s).map iv from rfl, hti] at hA
  have hpl : ((packL (bytesN s)).map ivN).length ≤ 100000000 := by rw [List.length_map, packL_len, bytesN_len]; omega
  obtain ⟨r0, r1, rfl⟩ := hM.two
  generalize (packL (bytesN s)).map ivN = EP at *
  refine ACall.enter Try.func36 rfl (by kernel_rfl) rfl (Nat.le_of_ble_eq_true rfl) ?_
  refine c_start ?_
  refine c_seq ?_
  refine c_region ?_
  refine AOps.st 4 rfl rfl rfl (op_assign rfl rfl ?_)
  refine AOps.nil ?_
  refine go_code ?_
  refine c_seq ?_
  refine c_region ?_
  refine AOps.st 6 rfl rfl rfl (op_move rfl rfl ?_)
  refine AOps.st 7 rfl rfl rfl (op_len_str rfl tu_9 rfl ?_)
  refine AOps.st 8 rfl rfl rfl (op_callp (xs := [.tmp 7]) rfl rfl (hI) (by first | exact Les.refl _ | (repeat' (first | exact Les.refl _ | refine Les.cons ?_ ?_ | exact Le.refl _ | exact Le.own _ _ _ | exact Le.nil _ | refine Le.agg ?_))) ?_)
  refine AOps.st 9 rfl rfl rfl (op_buildSlice_own (xs := [.tmp 8]) el_34 rfl rfl rfl rfl rfl rfl (Nat.le_of_ble_eq_true rfl) ?_); intro u9
  refine AOps.st 5 rfl rfl rfl (op_assign rfl rfl ?_)
  refine AOps.nil ?_
  refine go_code ?_
  refine c_seq ?_
  refine c_region ?_
  refine AOps.st 10 rfl rfl rfl (op_move rfl rfl ?_)
  refine AOps.st 11 rfl rfl rfl (op_move rfl rfl ?_)
  refine AOps.st 12 rfl rfl rfl (op_move rfl rfl ?_)
  refine AOps.st 13 rfl rfl rfl (op_callo (xs := [.tmp 12]) rfl rfl (hP) (by first | exact Les.refl _ | (repeat' (first | exact Les.refl _ | refine Les.cons ?_ ?_ | exact Le.refl _ | exact Le.own _ _ _ | exact Le.nil _ | refine Le.agg ?_))) ?_); intro u13
  first | (refine AOps.st 14 rfl rfl rfl (op_append (i := 0) el_34 rfl rfl rfl rfl (.seq _ _) (by first | (simp; done) | (simp; omega) | omega) ?_)) | (refine AOps.st 14 rfl rfl rfl (op_append (i := 1) el_34 rfl rfl rfl rfl (.seq _ _) (by first | (simp; done) | (simp; omega) | omega) ?_)) | (refine AOps.st 14 rfl rfl rfl (op_append (i := 2) el_34 rfl rfl rfl rfl (.seq _ _) (by first | (simp; done) | (simp; omega) | omega) ?_)) | (refine AOps.st 14 rfl rfl rfl (op_append (i := 3) el_34 rfl rfl rfl rfl (.seq _ _) (by first | (simp; done) | (simp; omega) | omega) ?_)) | (refine AOps.st 14 rfl rfl rfl (op_append (i := 4) el_34 rfl rfl rfl rfl (.seq _ _) (by first | (simp; done) | (simp; omega) | omega) ?_)) | (refine AOps.st 14 rfl rfl rfl (op_append (i := 5) el_34 rfl rfl rfl rfl (.seq _ _) (by first | (simp; done) | (simp; omega) | omega) ?_)) | (refine AOps.st 14 rfl rfl rfl (op_append (i := 0) el_34 rfl rfl rfl rfl (.own _ _ _) (by first | (simp; done) | (simp; omega) | omega) ?_)) | (refine AOps.st 14 rfl rfl rfl (op_append (i := 1) el_34 rfl rfl rfl rfl (.own _ _ _) (by first | (simp; done) | (simp; omega) | omega) ?_)) | (refine AOps.st 14 rfl rfl rfl (op_append (i := 2) el_34 rfl rfl rfl rfl (.own _ _ _) (by first | (simp; done) | (simp; omega) | omega) ?_)) | (refine AOps.st 14 rfl rfl rfl (op_append (i := 3) el_34 rfl rfl rfl rfl (.own _ _ _) (by first | (simp; done) | (simp; omega) | omega) ?_)) | (refine AOps.st 14 rfl rfl rfl (op_append (i := 4) el_34 rfl rfl rfl rfl (.own _ _ _) (by first | (simp; done) | (simp; omega) | omega) ?_)) | (refine AOps.st 14 rfl rfl rfl (op_append (i := 5) el_34 rfl rfl rfl rfl (.own _ _ _) (by first | (simp; done) | (simp; omega) | omega) ?_)) | (refine AOps.st 14 rfl rfl rfl (op_append (i := 0) el_34 rfl rfl rfl rfl (.nil _) (by first | (simp; done) | (simp; omega) | omega) ?_)) | (refine AOps.st 14 rfl rfl rfl (op_append (i := 1) el_34 rfl rfl rfl rfl (.nil _) (by first | (simp; done) | (simp; omega) | omega) ?_)) | (refine AOps.st 14 rfl rfl rfl (op_append (i := 2) el_34 rfl rfl rfl rfl (.nil _) (by first | (simp; done) | (simp; omega) | omega) ?_)) | (refine AOps.st 14 rfl rfl rfl (op_append (i := 3) el_34 rfl rfl rfl rfl (.nil _) (by first | (simp; done) | (simp; omega) | omega) ?_)) | (refine AOps.st 14 rfl rfl rfl (op_append (i := 4) el_34 rfl rfl rfl rfl (.nil _) (by first | (simp; done) | (simp; omega) | omega) ?_)) | (refine AOps.st 14 rfl rfl rfl (op_append (i := 5) el_34 rfl rfl rfl rfl (.nil _) (by first | (simp; done) | (simp; omega) | omega) ?_)) | (refine AOps.st 14 rfl rfl rfl (op_append_nil el_34 rfl rfl rfl (.seq _ _) (by first | (simp; done) | (simp; omega) | omega) ?_)) | (refine AOps.st 14 rfl rfl rfl (op_append_nil el_34 rfl rfl rfl (.own _ _ _) (by first | (simp; done) | (simp; omega) | omega) ?_)) | (refine AOps.st 14 rfl rfl rfl (op_append_nil el_34 rfl rfl rfl (.nil _) (by first | (simp; done) | (simp; omega) | omega) ?_))
  intro u14
  refine AOps.st 15 rfl rfl rfl (op_callat [2,2] (xs := [.tmp 10, .const (.int .i64 3), .const (.int .i64 0), .tmp 14])  rfl rfl rfl hA (Les.cons (Le.refl _) (Les.cons (Le.refl _) (Les.cons (Le.refl _) (Les.cons (Le.own_seq (by simp [iv, AV.cells])) (Les.refl _))))) ?_)
  rintro v14 M14 ⟨ok, w, H', hr, rfl, hM'⟩
  refine AOps.st 4 rfl rfl rfl (op_assign rfl rfl ?_)
  refine AOps.nil ?_
  refine go_code ?_
  refine c_ret ?_
  exact out_tmp (M' := M14) rfl rfl (Le.refl _) (MLe.pre _ _) ⟨ok, w, H', hr, rfl, hM'⟩
end Go.Proofs.Ytecpnlhjjmcllaa
