/- turn, none, Put, Apply of the program -/
import Derived.Test.YtjgjnheeohfmmaaB08d
namespace Go.Proofs.Ytjgjnheeohfmmaa
open Go.RowKit
theorem les_eq {cs cs' : List AV} (h : cs = cs') : Les cs cs' := by rw [h]; exact Les.refl _
/-- the cells of a type that is zero -/
abbrev zTy : List AV := [.val (.int .i64 0), .val (.string ⟨#[]⟩), .val (.int .i64 0), .val (.slice none 0 0)]
set_option maxRecDepth 100000 in
theorem none_c (x : Ty) (o : Ty → Option Ty) (ho : o x = none) : ACall Try.prog 68 [.agg x.cells] [] (fun v M' => [] = M' ∧ ∃ (y : Ty) (c : Bool), v = .tup [.agg y.cells, .val (.bool c)] ∧ o x = if c then some y else none) := by
  obtain ⟨k, s, n, ks⟩ := x
  refine ACall.enter Try.func68 rfl (by kernel_rfl) rfl (Nat.le_of_ble_eq_true rfl) ?_
  refine c_start ?_
  refine c_seq ?_
  refine c_region ?_
  refine AOps.st 1 rfl rfl rfl (op_box rfl rfl rfl ?_); intro b1
  refine AOps.st 2 rfl rfl rfl (op_alloc rfl tz_24 rfl ?_); intro b2
  refine AOps.st 3 rfl rfl rfl (op_assign rfl rfl ?_)
  refine AOps.nil ?_
  refine go_code ?_
  refine c_seq ?_
  refine c_region ?_
  first | (refine AOps.st 4 rfl rfl rfl (op_load_m (i := 0) rfl ta_24 rfl rfl rfl rfl ?_)) | (refine AOps.st 4 rfl rfl rfl (op_load_m (i := 1) rfl ta_24 rfl rfl rfl rfl ?_)) | (refine AOps.st 4 rfl rfl rfl (op_load_m (i := 2) rfl ta_24 rfl rfl rfl rfl ?_)) | (refine AOps.st 4 rfl rfl rfl (op_load_m (i := 3) rfl ta_24 rfl rfl rfl rfl ?_)) | (refine AOps.st 4 rfl rfl rfl (op_load_m (i := 4) rfl ta_24 rfl rfl rfl rfl ?_)) | (refine AOps.st 4 rfl rfl rfl (op_load_m (i := 5) rfl ta_24 rfl rfl rfl rfl ?_)) | (refine AOps.st 4 rfl rfl rfl (op_load_c rfl ta_24 rfl rfl rfl ?_))
  first | (refine AOps.st0 rfl rfl (op_store (i := 0) rfl ts_24 rfl rfl rfl rfl rfl (Nat.le_of_ble_eq_true rfl) rfl ?_)) | (refine AOps.st0 rfl rfl (op_store (i := 1) rfl ts_24 rfl rfl rfl rfl rfl (Nat.le_of_ble_eq_true rfl) rfl ?_)) | (refine AOps.st0 rfl rfl (op_store (i := 2) rfl ts_24 rfl rfl rfl rfl rfl (Nat.le_of_ble_eq_true rfl) rfl ?_)) | (refine AOps.st0 rfl rfl (op_store (i := 3) rfl ts_24 rfl rfl rfl rfl rfl (Nat.le_of_ble_eq_true rfl) rfl ?_)) | (refine AOps.st0 rfl rfl (op_store (i := 4) rfl ts_24 rfl rfl rfl rfl rfl (Nat.le_of_ble_eq_true rfl) rfl ?_)) | (refine AOps.st0 rfl rfl (op_store (i := 5) rfl ts_24 rfl rfl rfl rfl rfl (Nat.le_of_ble_eq_true rfl) rfl ?_))
  refine AOps.st 3 rfl rfl rfl (op_assign rfl rfl ?_)
  refine AOps.nil ?_
  refine go_code ?_
  refine c_ret ?_
  exact out_ct (i := 0) rfl rfl rfl rfl ta_24 rfl (by repeat' (first | exact Le.refl _ | exact Le.own _ _ _ | exact Le.nil _ | refine Le.agg ?_ | refine Le.tup ?_ | exact Les.refl _ | refine Les.cons ?_ ?_)) (by first | exact MLe.none _ | exact MLe.refl _ | (repeat' (first | exact MLe.nil | exact MLe.refl _ | refine MLe.cons _ ?_ | refine MLe.drop _ ?_))) ⟨rfl, .mk k s n ks, false, rfl, ho⟩
theorem turn_es (o : Ty → Option Ty) (ks : List Ty) (i : Nat) (x : Ty) (hx : ks[i]? = some x) (zc : List AV) :
    (Ty.cellss (Ty.turns o (ks.take i)) ++ List.replicate (ks.length - i) zc).set i (x.turn o).cells = Ty.cellss (Ty.turns o (ks.take (i + 1))) ++ List.replicate (ks.length - (i + 1)) zc := by
  have hi : i < ks.length := by
    rcases Nat.lt_or_ge i ks.length with k | k
    · exact k
    · rw [List.getElem?_eq_none k] at hx; simp at hx
  have hl : (Ty.cellss (Ty.turns o (ks.take i))).length = i := by rw [Ty.cellss_len, Ty.turns_len]; simp; omega
  rw [List.set_append_right _ _ (by omega), hl, Nat.sub_self, show ks.length - i = (ks.length - (i + 1)) + 1 from by omega, List.replicate_succ, List.set_cons_zero, take_snoc hx, Ty.turns_snoc, Ty.cellss_app]
  simp [Ty.cellss]
theorem turn_wide (o : Ty → Option Ty) (ks : List Ty) (i : Nat) (zc : List AV) (hz : zc.length = 4) : ∀ e ∈ Ty.cellss (Ty.turns o (ks.take i)) ++ List.replicate (ks.length - i) zc, e.length = 4 := by
  intro e he
  rcases List.mem_append.1 he with q | q
  · rw [Ty.cellss_map] at q
    obtain ⟨⟨k, s, n, l⟩, _, rfl⟩ := List.mem_map.1 q
    rfl
  · rw [List.eq_of_mem_replicate q]; exact hz
set_option maxRecDepth 100000 in
theorem turn_c (o : Ty → Option Ty) (f : FuncId) (fs cs : List AV) (Mc : Mem)
    (hf : ∀ x, ACall Try.prog f (fs ++ [.agg (Ty.cells x)] ++ cs) Mc (fun v M' => Mc = M' ∧ ∃ (y : Ty) (c : Bool), v = .tup [.agg y.cells, .val (.bool c)] ∧ o x = if c then some y else none)) (d : Nat) :
    ∀ t : Ty, t.size ≤ d → t.size ≤ 1000000 → ACall Try.prog 65 [.agg t.cells, .clo (.func f) fs cs] Mc (fun v M' => v = .agg (t.turn o).cells ∧ Mc = M') := by
  induction d with
  | zero => intro t hd; have := Ty.size_pos t; omega
  | succ d ih =>
    rintro ⟨k, s, n, ks⟩ hd hmx
    have hl := Ty.cellss_len ks
    have hls := Ty.len_sizes ks
    rw [Ty.size] at hd hmx
    refine ACall.enter Try.func65 rfl (by kernel_rfl) rfl (Nat.le_of_ble_eq_true rfl) ?_
    refine c_start ?_
    refine c_seq ?_
    refine c_region ?_
    refine AOps.st 2 rfl rfl rfl (op_box rfl rfl rfl ?_); intro b2
    refine AOps.st 4 rfl rfl rfl (op_alloc rfl tz_24 rfl ?_); intro b4
    refine AOps.nil ?_
    refine go_code ?_
    refine c_seq ?_
    refine c_seq ?_
    refine c_region ?_
    refine AOps.st 11 rfl rfl rfl (op_move rfl rfl ?_)
    first | (refine AOps.st 12 rfl rfl rfl (op_load_m (i := 0) rfl ta_24 rfl rfl rfl rfl ?_)) | (refine AOps.st 12 rfl rfl rfl (op_load_m (i := 1) rfl ta_24 rfl rfl rfl rfl ?_)) | (refine AOps.st 12 rfl rfl rfl (op_load_m (i := 2) rfl ta_24 rfl rfl rfl rfl ?_)) | (refine AOps.st 12 rfl rfl rfl (op_load_m (i := 3) rfl ta_24 rfl rfl rfl rfl ?_)) | (refine AOps.st 12 rfl rfl rfl (op_load_m (i := 4) rfl ta_24 rfl rfl rfl rfl ?_)) | (refine AOps.st 12 rfl rfl rfl (op_load_m (i := 5) rfl ta_24 rfl rfl rfl rfl ?_)) | (refine AOps.st 12 rfl rfl rfl (op_load_c rfl ta_24 rfl rfl rfl ?_))
    refine AOps.st 13 rfl rfl rfl (op_callvm (xs := [.tmp 12])  [.loc b4 _, .loc b2 _] rfl rfl rfl rfl (hf (.mk k s n ks)) (Les.refl _) (fun v13 M13 h13 => ?_))
    obtain ⟨rfl, ⟨yk, ys, yn, yks⟩, c15, rfl, hc⟩ := h13
    refine AOps.st 10 rfl rfl rfl (op_move rfl rfl ?_)
    refine AOps.st 14 rfl rfl rfl (op_extract rfl rfl rfl ?_)
    refine AOps.st 15 rfl rfl rfl (op_extract rfl rfl rfl ?_)
    refine AOps.st 5 rfl rfl rfl (op_alloc rfl tz_24 rfl ?_); intro b5
    first | (refine AOps.st0 rfl rfl (op_store (i := 0) rfl ts_24 rfl rfl rfl rfl rfl (Nat.le_of_ble_eq_true rfl) rfl ?_)) | (refine AOps.st0 rfl rfl (op_store (i := 1) rfl ts_24 rfl rfl rfl rfl rfl (Nat.le_of_ble_eq_true rfl) rfl ?_)) | (refine AOps.st0 rfl rfl (op_store (i := 2) rfl ts_24 rfl rfl rfl rfl rfl (Nat.le_of_ble_eq_true rfl) rfl ?_)) | (refine AOps.st0 rfl rfl (op_store (i := 3) rfl ts_24 rfl rfl rfl rfl rfl (Nat.le_of_ble_eq_true rfl) rfl ?_)) | (refine AOps.st0 rfl rfl (op_store (i := 4) rfl ts_24 rfl rfl rfl rfl rfl (Nat.le_of_ble_eq_true rfl) rfl ?_)) | (refine AOps.st0 rfl rfl (op_store (i := 5) rfl ts_24 rfl rfl rfl rfl rfl (Nat.le_of_ble_eq_true rfl) rfl ?_))
    refine AOps.st 6 rfl rfl rfl (op_assign rfl rfl ?_)
    refine AOps.nil ?_
    refine go_code ?_
    refine c_seq ?_
    refine c_region ?_
    refine AOps.st 16 rfl rfl rfl (op_move rfl rfl ?_)
    refine AOps.nil ?_
    refine go_code ?_
    rcases c15 with _ | _
    · refine c_cond_f rfl ?_
      refine c_skip ?_
      refine go_code ?_
      refine c_seq ?_
      refine c_region ?_
      first | (refine AOps.st 18 rfl rfl rfl (op_fieldAddr_m rfl tf_24_3 rfl ?_)) | (refine AOps.st 18 rfl rfl rfl (op_fieldAddr_c rfl tf_24_3 rfl rfl ?_))
      first | (refine AOps.st 19 rfl rfl rfl (op_load_m1 (i := 0) rfl ta_22 rfl rfl rfl ?_)) | (refine AOps.st 19 rfl rfl rfl (op_load_m1 (i := 1) rfl ta_22 rfl rfl rfl ?_)) | (refine AOps.st 19 rfl rfl rfl (op_load_m1 (i := 2) rfl ta_22 rfl rfl rfl ?_)) | (refine AOps.st 19 rfl rfl rfl (op_load_m1 (i := 3) rfl ta_22 rfl rfl rfl ?_)) | (refine AOps.st 19 rfl rfl rfl (op_load_m1 (i := 4) rfl ta_22 rfl rfl rfl ?_)) | (refine AOps.st 19 rfl rfl rfl (op_load_m1 (i := 5) rfl ta_22 rfl rfl rfl ?_)) | (refine AOps.st 19 rfl rfl rfl (op_load_c1 rfl ta_22 rfl rfl ?_))
      first | (refine AOps.st 20 rfl rfl rfl (op_len rfl tu_22 rfl (.seq _ _) (fun n20 => ?_))) | (refine AOps.st 20 rfl rfl rfl (op_len rfl tu_22 rfl (.own _ _ _) (fun n20 => ?_))) | (refine AOps.st 20 rfl rfl rfl (op_len rfl tu_22 rfl (.nil 0) (fun n20 => ?_))) | (refine AOps.st 20 rfl rfl rfl (op_len_arr rfl tu_22 rfl ?_))
      refine AOps.st 21 rfl rfl rfl (op_makeSlice el_22 rfl rfl rfl (by omega) rfl ?_); intro b21
      refine AOps.st 7 rfl rfl rfl (op_assign rfl rfl ?_)
      refine AOps.nil ?_
      refine go_code ?_
      refine c_seq ?_
      refine c_seq ?_
      refine c_region ?_
      first | (refine AOps.st 22 rfl rfl rfl (op_fieldAddr_m rfl tf_24_3 rfl ?_)) | (refine AOps.st 22 rfl rfl rfl (op_fieldAddr_c rfl tf_24_3 rfl rfl ?_))
      first | (refine AOps.st 23 rfl rfl rfl (op_load_m1 (i := 0) rfl ta_22 rfl rfl rfl ?_)) | (refine AOps.st 23 rfl rfl rfl (op_load_m1 (i := 1) rfl ta_22 rfl rfl rfl ?_)) | (refine AOps.st 23 rfl rfl rfl (op_load_m1 (i := 2) rfl ta_22 rfl rfl rfl ?_)) | (refine AOps.st 23 rfl rfl rfl (op_load_m1 (i := 3) rfl ta_22 rfl rfl rfl ?_)) | (refine AOps.st 23 rfl rfl rfl (op_load_m1 (i := 4) rfl ta_22 rfl rfl rfl ?_)) | (refine AOps.st 23 rfl rfl rfl (op_load_m1 (i := 5) rfl ta_22 rfl rfl rfl ?_)) | (refine AOps.st 23 rfl rfl rfl (op_load_c1 rfl ta_22 rfl rfl ?_))
      first | (refine AOps.st 24 rfl rfl rfl (op_len rfl tu_22 rfl (.seq _ _) (fun n24 => ?_))) | (refine AOps.st 24 rfl rfl rfl (op_len rfl tu_22 rfl (.own _ _ _) (fun n24 => ?_))) | (refine AOps.st 24 rfl rfl rfl (op_len rfl tu_22 rfl (.nil 0) (fun n24 => ?_))) | (refine AOps.st 24 rfl rfl rfl (op_len_arr rfl tu_22 rfl ?_))
      refine AOps.st 25 rfl rfl rfl (op_move rfl rfl ?_)
      refine AOps.nil ?_
      refine go_code ?_
      refine c_block ?_
      rw [hl]
      refine c_loop (σ := Nat) (fun zz => match zz with | i => [(1, .clo (.func f) fs cs), (2, .ptr b2 0), (4, .ptr b4 0), (7, .arr b21 0 ks.length ks.length), (23, .seq 4 (Ty.cellss ks)), (24, .val (.int .i64 ks.length)), (25, .val (.int .i64 i))]) (fun zz => match zz with | i => .loc b21 (Ty.cellss (Ty.turns o (ks.take i)) ++ List.replicate (ks.length - i) zTy).flatten :: .loc b5 (Ty.cells (.mk yk ys yn yks)) :: .loc b4 zTy :: .loc b2 (Ty.cells (.mk k s n ks)) :: Mc) (fun zz => match zz with | i => i ≤ ks.length) (fun zz => match zz with | i => ks.length - i) (0) ?_ ?_ ?_ ?_
      · simp
      · exact (by repeat' (first | exact SLe.nil _ | refine SLe.cons rfl ?_ ?_ | exact Le.refl _ | exact Le.own _ _ _ | exact Le.nil _))
      · exact (by first | exact MLe.none _ | exact MLe.refl _ | (repeat' (first | exact MLe.nil | exact MLe.refl _ | refine MLe.cons _ ?_ | refine MLe.drop _ ?_)))
      rintro i hI
      refine c_seq ?_
      refine c_region ?_
      refine AOps.st 26 rfl rfl rfl (op_lss rfl rfl rfl ?_); intro c26 h26
      refine AOps.nil ?_
      refine go_code ?_
      refine c_seq ?_
      rcases bool_split h26 with ⟨rfl, g26⟩ | ⟨rfl, g26⟩
      · refine c_cond_f rfl ?_
        refine c_exit ?_
        refine x_code ?_
        refine x_lp ?_
        refine x_here ?_
        refine go_code ?_
        refine c_seq ?_
        have hw := turn_wide o ks ks.length zTy rfl
        obtain rfl : i = ks.length := by omega
        simp only [List.take_length, Nat.sub_self, List.replicate_zero, List.append_nil] at hw ⊢
        refine c_freeze (i := 0) (al' := [(2, .ptr b2 0), (4, .ptr b4 0), (7, .seq 4 (Ty.cellss (Ty.turns o ks)))]) rfl rfl hw (by rw [Ty.cellss_len, Ty.turns_len]) (by omega) (Frz.cons rfl (Le.refl _) (Frz.cons rfl (Le.refl _) (Frz.arr rfl Frz.nil))) ?_
        refine c_region ?_
        refine AOps.st 37 rfl rfl rfl (op_move rfl rfl ?_)
        first | (refine AOps.st 38 rfl rfl rfl (op_fieldAddr_m rfl tf_24_3 rfl ?_)) | (refine AOps.st 38 rfl rfl rfl (op_fieldAddr_c rfl tf_24_3 rfl rfl ?_))
        first | (refine AOps.st0 rfl rfl (op_store (i := 0) rfl ts_22 rfl rfl rfl rfl rfl (Nat.le_of_ble_eq_true rfl) rfl ?_)) | (refine AOps.st0 rfl rfl (op_store (i := 1) rfl ts_22 rfl rfl rfl rfl rfl (Nat.le_of_ble_eq_true rfl) rfl ?_)) | (refine AOps.st0 rfl rfl (op_store (i := 2) rfl ts_22 rfl rfl rfl rfl rfl (Nat.le_of_ble_eq_true rfl) rfl ?_)) | (refine AOps.st0 rfl rfl (op_store (i := 3) rfl ts_22 rfl rfl rfl rfl rfl (Nat.le_of_ble_eq_true rfl) rfl ?_)) | (refine AOps.st0 rfl rfl (op_store (i := 4) rfl ts_22 rfl rfl rfl rfl rfl (Nat.le_of_ble_eq_true rfl) rfl ?_)) | (refine AOps.st0 rfl rfl (op_store (i := 5) rfl ts_22 rfl rfl rfl rfl rfl (Nat.le_of_ble_eq_true rfl) rfl ?_))
        refine AOps.nil ?_
        refine go_code ?_
        refine c_seq ?_
        refine c_region ?_
        first | (refine AOps.st 39 rfl rfl rfl (op_load_m (i := 0) rfl ta_24 rfl rfl rfl rfl ?_)) | (refine AOps.st 39 rfl rfl rfl (op_load_m (i := 1) rfl ta_24 rfl rfl rfl rfl ?_)) | (refine AOps.st 39 rfl rfl rfl (op_load_m (i := 2) rfl ta_24 rfl rfl rfl rfl ?_)) | (refine AOps.st 39 rfl rfl rfl (op_load_m (i := 3) rfl ta_24 rfl rfl rfl rfl ?_)) | (refine AOps.st 39 rfl rfl rfl (op_load_m (i := 4) rfl ta_24 rfl rfl rfl rfl ?_)) | (refine AOps.st 39 rfl rfl rfl (op_load_m (i := 5) rfl ta_24 rfl rfl rfl rfl ?_)) | (refine AOps.st 39 rfl rfl rfl (op_load_c rfl ta_24 rfl rfl rfl ?_))
        first | (refine AOps.st0 rfl rfl (op_store (i := 0) rfl ts_24 rfl rfl rfl rfl rfl (Nat.le_of_ble_eq_true rfl) rfl ?_)) | (refine AOps.st0 rfl rfl (op_store (i := 1) rfl ts_24 rfl rfl rfl rfl rfl (Nat.le_of_ble_eq_true rfl) rfl ?_)) | (refine AOps.st0 rfl rfl (op_store (i := 2) rfl ts_24 rfl rfl rfl rfl rfl (Nat.le_of_ble_eq_true rfl) rfl ?_)) | (refine AOps.st0 rfl rfl (op_store (i := 3) rfl ts_24 rfl rfl rfl rfl rfl (Nat.le_of_ble_eq_true rfl) rfl ?_)) | (refine AOps.st0 rfl rfl (op_store (i := 4) rfl ts_24 rfl rfl rfl rfl rfl (Nat.le_of_ble_eq_true rfl) rfl ?_)) | (refine AOps.st0 rfl rfl (op_store (i := 5) rfl ts_24 rfl rfl rfl rfl rfl (Nat.le_of_ble_eq_true rfl) rfl ?_))
        refine AOps.nil ?_
        refine go_code ?_
        refine c_ret ?_
        rw [Ty.turn_none (by simpa using hc)]
        exact out_cell (i := 1) rfl rfl rfl ta_24 rfl (by repeat' (first | exact Le.refl _ | exact Le.own _ _ _ | exact Le.nil _ | refine Le.agg ?_ | refine Le.tup ?_ | exact Les.refl _ | refine Les.cons ?_ ?_)) (MLe.drop _ (MLe.drop _ (MLe.drop _ (MLe.refl _)))) ⟨rfl, rfl⟩
      · refine c_cond_t rfl ?_
        refine c_skip ?_
        refine go_code ?_
        refine c_seq ?_
        refine c_block ?_
        refine c_seq ?_
        obtain ⟨⟨k', s', n', ks'⟩, hx⟩ := get_some (l := ks) (i := i) (by omega)
        have hcx := Ty.cellss_get hx
        have hsz := Ty.size_at hx
        have H := ih (.mk k' s' n' ks') (by omega) (by omega)
        have he := turn_es o ks i _ hx zTy
        have hw := turn_wide o ks i zTy rfl
        have hln : (Ty.cellss (Ty.turns o (ks.take i)) ++ List.replicate (ks.length - i) zTy).length = ks.length := by rw [List.length_append, Ty.cellss_len, Ty.turns_len]; simp; omega
        generalize Ty.turn o _ = r at H he
        obtain ⟨rk, rs, rn, rks⟩ := r
        refine c_region ?_
        refine AOps.st 27 rfl rfl rfl (op_move rfl rfl ?_)
        first | (refine AOps.st 28 rfl rfl rfl (op_index rfl te_22 rfl (.seq _ _) rfl rfl (by assumption) ?_)) | (refine AOps.st 28 rfl rfl rfl (op_index (i := 0) rfl te_22 rfl (.seq _ _) rfl rfl (by first | rfl | assumption) ?_)) | (refine AOps.st 28 rfl rfl rfl (op_index (i := 1) rfl te_22 rfl (.seq _ _) rfl rfl (by first | rfl | assumption) ?_)) | (refine AOps.st 28 rfl rfl rfl (op_index rfl te_22 rfl (.own _ _ _) rfl rfl (by assumption) ?_)) | (refine AOps.st 28 rfl rfl rfl (op_index (i := 0) rfl te_22 rfl (.own _ _ _) rfl rfl (by first | rfl | assumption) ?_)) | (refine AOps.st 28 rfl rfl rfl (op_index (i := 1) rfl te_22 rfl (.own _ _ _) rfl rfl (by first | rfl | assumption) ?_)) | (refine AOps.st 28 rfl rfl rfl (op_index_arr rfl te_22 rfl rfl rfl (by omega) ?_))
        first | (refine AOps.st 29 rfl rfl rfl (op_load_m (i := 0) rfl ta_24 rfl rfl rfl rfl ?_)) | (refine AOps.st 29 rfl rfl rfl (op_load_m (i := 1) rfl ta_24 rfl rfl rfl rfl ?_)) | (refine AOps.st 29 rfl rfl rfl (op_load_m (i := 2) rfl ta_24 rfl rfl rfl rfl ?_)) | (refine AOps.st 29 rfl rfl rfl (op_load_m (i := 3) rfl ta_24 rfl rfl rfl rfl ?_)) | (refine AOps.st 29 rfl rfl rfl (op_load_m (i := 4) rfl ta_24 rfl rfl rfl rfl ?_)) | (refine AOps.st 29 rfl rfl rfl (op_load_m (i := 5) rfl ta_24 rfl rfl rfl rfl ?_)) | (refine AOps.st 29 rfl rfl rfl (op_load_c rfl ta_24 rfl rfl rfl ?_))
        refine AOps.st 9 rfl rfl rfl (op_alloc rfl tz_24 rfl ?_); intro b9
        refine AOps.st 8 rfl rfl rfl (op_assign rfl rfl ?_)
        first | (refine AOps.st0 rfl rfl (op_store (i := 0) rfl ts_24 rfl rfl rfl rfl rfl (Nat.le_of_ble_eq_true rfl) rfl ?_)) | (refine AOps.st0 rfl rfl (op_store (i := 1) rfl ts_24 rfl rfl rfl rfl rfl (Nat.le_of_ble_eq_true rfl) rfl ?_)) | (refine AOps.st0 rfl rfl (op_store (i := 2) rfl ts_24 rfl rfl rfl rfl rfl (Nat.le_of_ble_eq_true rfl) rfl ?_)) | (refine AOps.st0 rfl rfl (op_store (i := 3) rfl ts_24 rfl rfl rfl rfl rfl (Nat.le_of_ble_eq_true rfl) rfl ?_)) | (refine AOps.st0 rfl rfl (op_store (i := 4) rfl ts_24 rfl rfl rfl rfl rfl (Nat.le_of_ble_eq_true rfl) rfl ?_)) | (refine AOps.st0 rfl rfl (op_store (i := 5) rfl ts_24 rfl rfl rfl rfl rfl (Nat.le_of_ble_eq_true rfl) rfl ?_))
        refine AOps.nil ?_
        refine go_code ?_
        refine c_region ?_
        refine AOps.st 30 rfl rfl rfl (op_move rfl rfl ?_)
        refine AOps.st 31 rfl rfl rfl (op_move rfl rfl ?_)
        first | (refine AOps.st 32 rfl rfl rfl (op_load_m (i := 0) rfl ta_24 rfl rfl rfl rfl ?_)) | (refine AOps.st 32 rfl rfl rfl (op_load_m (i := 1) rfl ta_24 rfl rfl rfl rfl ?_)) | (refine AOps.st 32 rfl rfl rfl (op_load_m (i := 2) rfl ta_24 rfl rfl rfl rfl ?_)) | (refine AOps.st 32 rfl rfl rfl (op_load_m (i := 3) rfl ta_24 rfl rfl rfl rfl ?_)) | (refine AOps.st 32 rfl rfl rfl (op_load_m (i := 4) rfl ta_24 rfl rfl rfl rfl ?_)) | (refine AOps.st 32 rfl rfl rfl (op_load_m (i := 5) rfl ta_24 rfl rfl rfl rfl ?_)) | (refine AOps.st 32 rfl rfl rfl (op_load_c rfl ta_24 rfl rfl rfl ?_))
        refine AOps.st 33 rfl rfl rfl (op_move rfl rfl ?_)
        refine AOps.st 34 rfl rfl rfl (op_callm (xs := [.tmp 32, .tmp 33])  [.loc b9 _, .loc b21 _, .loc b5 _, .loc b4 _, .loc b2 _] rfl rfl rfl H (Les.refl _) (fun v34 M34 h34 => ?_))
        obtain ⟨rfl, rfl⟩ := h34
        first | (refine AOps.st 35 rfl rfl rfl (op_index rfl te_22 rfl (.seq _ _) rfl rfl (by assumption) ?_)) | (refine AOps.st 35 rfl rfl rfl (op_index (i := 0) rfl te_22 rfl (.seq _ _) rfl rfl (by first | rfl | assumption) ?_)) | (refine AOps.st 35 rfl rfl rfl (op_index (i := 1) rfl te_22 rfl (.seq _ _) rfl rfl (by first | rfl | assumption) ?_)) | (refine AOps.st 35 rfl rfl rfl (op_index rfl te_22 rfl (.own _ _ _) rfl rfl (by assumption) ?_)) | (refine AOps.st 35 rfl rfl rfl (op_index (i := 0) rfl te_22 rfl (.own _ _ _) rfl rfl (by first | rfl | assumption) ?_)) | (refine AOps.st 35 rfl rfl rfl (op_index (i := 1) rfl te_22 rfl (.own _ _ _) rfl rfl (by first | rfl | assumption) ?_)) | (refine AOps.st 35 rfl rfl rfl (op_index_arr rfl te_22 rfl rfl rfl (by omega) ?_))
        refine AOps.st0 rfl rfl (op_store_row (k := 1) rfl ts_24 rfl rfl rfl rfl rfl (hw) ((by omega)) ?_)
        refine AOps.nil ?_
        refine go_blk ?_
        refine go_code ?_
        refine c_region ?_
        first | (refine AOps.st 36 rfl rfl rfl (op_add rfl rfl rfl (IntWalk.i64_in _ (by omega)) ?_)) | (refine AOps.st 36 rfl rfl rfl (op_add rfl rfl rfl rfl ?_))
        refine AOps.st 25 rfl rfl rfl (op_move rfl rfl ?_)
        refine AOps.nil ?_
        refine go_lp ?_
        refine ⟨i + 1, by simp; omega, by simp; omega, (by repeat' (first | exact SLe.nil _ | refine SLe.cons rfl ?_ ?_ | exact Le.refl _ | exact Le.own _ _ _ | exact Le.nil _)), ?_⟩
        exact MLe.drop _ (MLe.loc _ (les_eq (congrArg List.flatten he)) (MLe.refl _))
    · refine c_cond_t rfl ?_
      refine c_seq ?_
      refine c_region ?_
      first | (refine AOps.st 17 rfl rfl rfl (op_load_m (i := 0) rfl ta_24 rfl rfl rfl rfl ?_)) | (refine AOps.st 17 rfl rfl rfl (op_load_m (i := 1) rfl ta_24 rfl rfl rfl rfl ?_)) | (refine AOps.st 17 rfl rfl rfl (op_load_m (i := 2) rfl ta_24 rfl rfl rfl rfl ?_)) | (refine AOps.st 17 rfl rfl rfl (op_load_m (i := 3) rfl ta_24 rfl rfl rfl rfl ?_)) | (refine AOps.st 17 rfl rfl rfl (op_load_m (i := 4) rfl ta_24 rfl rfl rfl rfl ?_)) | (refine AOps.st 17 rfl rfl rfl (op_load_m (i := 5) rfl ta_24 rfl rfl rfl rfl ?_)) | (refine AOps.st 17 rfl rfl rfl (op_load_c rfl ta_24 rfl rfl rfl ?_))
      first | (refine AOps.st0 rfl rfl (op_store (i := 0) rfl ts_24 rfl rfl rfl rfl rfl (Nat.le_of_ble_eq_true rfl) rfl ?_)) | (refine AOps.st0 rfl rfl (op_store (i := 1) rfl ts_24 rfl rfl rfl rfl rfl (Nat.le_of_ble_eq_true rfl) rfl ?_)) | (refine AOps.st0 rfl rfl (op_store (i := 2) rfl ts_24 rfl rfl rfl rfl rfl (Nat.le_of_ble_eq_true rfl) rfl ?_)) | (refine AOps.st0 rfl rfl (op_store (i := 3) rfl ts_24 rfl rfl rfl rfl rfl (Nat.le_of_ble_eq_true rfl) rfl ?_)) | (refine AOps.st0 rfl rfl (op_store (i := 4) rfl ts_24 rfl rfl rfl rfl rfl (Nat.le_of_ble_eq_true rfl) rfl ?_)) | (refine AOps.st0 rfl rfl (op_store (i := 5) rfl ts_24 rfl rfl rfl rfl rfl (Nat.le_of_ble_eq_true rfl) rfl ?_))
      refine AOps.nil ?_
      refine go_code ?_
      refine c_ret ?_
      rw [Ty.turn_some (by simpa using hc)]
      exact out_cell (i := 1) rfl rfl rfl ta_24 rfl (by repeat' (first | exact Le.refl _ | exact Le.own _ _ _ | exact Le.nil _ | refine Le.agg ?_ | refine Le.tup ?_ | exact Les.refl _ | refine Les.cons ?_ ?_)) (MLe.drop _ (MLe.drop _ (MLe.drop _ (MLe.refl _)))) ⟨rfl, rfl⟩
/-- a copy in new memory -/
theorem copy_c (t : Ty) (hmx : t.size ≤ 1000000) : PCall Try.prog 65 [.agg t.cells, .clo (.func 68) [] []] (.agg t.cells) := by
  have := turn_c (fun _ => none) 68 [] [] [] (fun x => none_c x (fun _ => none) rfl) t.size t (Nat.le_refl _) hmx
  rw [Ty.turn_id] at this
  exact this.mono (fun v M' ⟨h1, h2⟩ => ⟨h1, h2.symm⟩)
set_option maxRecDepth 100000 in
theorem PutF_c (names : List ByteArray) (ts : List Ty) (b3 b4 : Nat) (hts : ∀ t ∈ ts, t.size ≤ 1000000) (x : Ty) : ACall Try.prog 66 [.agg x.cells, .ptr b3 0, .ptr b4 0] [.loc b3 [.seq 1 (strs names)], .loc b4 [.seq 4 (Ty.cellss ts)]] (fun v M' => [.loc b3 [.seq 1 (strs names)], .loc b4 [.seq 4 (Ty.cellss ts)]] = M' ∧ ∃ (y : Ty) (c : Bool), v = .tup [.agg y.cells, .val (.bool c)] ∧ putO names ts x = if c then some y else none) := by
  obtain ⟨k, s, n, ks⟩ := x
  have hl := Ty.cellss_len ts
  have hfl := firstAt_lt s names 0
  refine ACall.enter Try.func66 rfl (by kernel_rfl) rfl (Nat.le_of_ble_eq_true rfl) ?_
  refine c_start ?_
  refine c_seq ?_
  refine c_region ?_
  refine AOps.st 3 rfl rfl rfl (op_box rfl rfl rfl ?_); intro b3
  refine AOps.st 4 rfl rfl rfl (op_alloc rfl tz_24 rfl ?_); intro b4
  refine AOps.st 5 rfl rfl rfl (op_assign rfl rfl ?_)
  refine AOps.nil ?_
  refine go_code ?_
  refine c_seq ?_
  refine c_seq ?_
  refine c_region ?_
  first | (refine AOps.st 7 rfl rfl rfl (op_fieldAddr_m rfl tf_24_0 rfl ?_)) | (refine AOps.st 7 rfl rfl rfl (op_fieldAddr_c rfl tf_24_0 rfl rfl ?_))
  first | (refine AOps.st 8 rfl rfl rfl (op_load_m1 (i := 0) rfl ta_3 rfl rfl rfl ?_)) | (refine AOps.st 8 rfl rfl rfl (op_load_m1 (i := 1) rfl ta_3 rfl rfl rfl ?_)) | (refine AOps.st 8 rfl rfl rfl (op_load_m1 (i := 2) rfl ta_3 rfl rfl rfl ?_)) | (refine AOps.st 8 rfl rfl rfl (op_load_m1 (i := 3) rfl ta_3 rfl rfl rfl ?_)) | (refine AOps.st 8 rfl rfl rfl (op_load_m1 (i := 4) rfl ta_3 rfl rfl rfl ?_)) | (refine AOps.st 8 rfl rfl rfl (op_load_m1 (i := 5) rfl ta_3 rfl rfl rfl ?_)) | (refine AOps.st 8 rfl rfl rfl (op_load_c1 rfl ta_3 rfl rfl ?_))
  refine AOps.st 9 rfl rfl rfl (op_neq rfl rfl rfl ?_); intro c9 h9
  refine AOps.nil ?_
  refine go_code ?_
  rcases bool_split h9 with ⟨rfl, g9⟩ | ⟨rfl, g9⟩
  · refine c_cond_f rfl ?_
    refine c_skip ?_
    refine go_code ?_
    refine c_seq ?_
    refine c_region ?_
    first | (refine AOps.st 11 rfl rfl rfl (op_load_m1 (i := 0) rfl ta_27 rfl rfl rfl ?_)) | (refine AOps.st 11 rfl rfl rfl (op_load_m1 (i := 1) rfl ta_27 rfl rfl rfl ?_)) | (refine AOps.st 11 rfl rfl rfl (op_load_m1 (i := 2) rfl ta_27 rfl rfl rfl ?_)) | (refine AOps.st 11 rfl rfl rfl (op_load_m1 (i := 3) rfl ta_27 rfl rfl rfl ?_)) | (refine AOps.st 11 rfl rfl rfl (op_load_m1 (i := 4) rfl ta_27 rfl rfl rfl ?_)) | (refine AOps.st 11 rfl rfl rfl (op_load_m1 (i := 5) rfl ta_27 rfl rfl rfl ?_)) | (refine AOps.st 11 rfl rfl rfl (op_load_c1 rfl ta_27 rfl rfl ?_))
    first | (refine AOps.st 12 rfl rfl rfl (op_fieldAddr_m rfl tf_24_1 rfl ?_)) | (refine AOps.st 12 rfl rfl rfl (op_fieldAddr_c rfl tf_24_1 rfl rfl ?_))
    first | (refine AOps.st 13 rfl rfl rfl (op_load_m1 (i := 0) rfl ta_9 rfl rfl rfl ?_)) | (refine AOps.st 13 rfl rfl rfl (op_load_m1 (i := 1) rfl ta_9 rfl rfl rfl ?_)) | (refine AOps.st 13 rfl rfl rfl (op_load_m1 (i := 2) rfl ta_9 rfl rfl rfl ?_)) | (refine AOps.st 13 rfl rfl rfl (op_load_m1 (i := 3) rfl ta_9 rfl rfl rfl ?_)) | (refine AOps.st 13 rfl rfl rfl (op_load_m1 (i := 4) rfl ta_9 rfl rfl rfl ?_)) | (refine AOps.st 13 rfl rfl rfl (op_load_m1 (i := 5) rfl ta_9 rfl rfl rfl ?_)) | (refine AOps.st 13 rfl rfl rfl (op_load_c1 rfl ta_9 rfl rfl ?_))
    refine AOps.st 14 rfl rfl rfl (op_callp (xs := [.tmp 11, .tmp 13]) rfl rfl (IndexS_c names s) (by first | exact Les.refl _ | (repeat' (first | exact Les.refl _ | refine Les.cons ?_ ?_ | exact Le.refl _ | exact Le.own _ _ _ | exact Le.nil _ | refine Le.agg ?_))) ?_)
    refine AOps.st 6 rfl rfl rfl (op_assign rfl rfl ?_)
    refine AOps.nil ?_
    refine go_code ?_
    refine c_seq ?_
    refine c_seq ?_
    refine c_bool 22 (firstAt s names 0 < 0 ∨ (ts.length : Int) ≤ firstAt s names 0) ?_ _ _ rfl ?_
    · skip
      refine AOps.st 15 rfl rfl rfl (op_move rfl rfl ?_)
      refine AOps.st 16 rfl rfl rfl (op_lss rfl rfl rfl ?_); intro c16 h16
      refine AOps.st 17 rfl rfl rfl (op_move rfl rfl ?_)
      rcases bool_split h16 with ⟨rfl, g16⟩ | ⟨rfl, g16⟩
      · skip
        refine AOps.gt 18 rfl rfl rfl rfl rfl (op_move rfl rfl ?_)
        first | (refine AOps.gt 19 rfl rfl rfl rfl rfl (op_load_m1 (i := 0) rfl ta_22 rfl rfl rfl ?_)) | (refine AOps.gt 19 rfl rfl rfl rfl rfl (op_load_m1 (i := 1) rfl ta_22 rfl rfl rfl ?_)) | (refine AOps.gt 19 rfl rfl rfl rfl rfl (op_load_m1 (i := 2) rfl ta_22 rfl rfl rfl ?_)) | (refine AOps.gt 19 rfl rfl rfl rfl rfl (op_load_m1 (i := 3) rfl ta_22 rfl rfl rfl ?_)) | (refine AOps.gt 19 rfl rfl rfl rfl rfl (op_load_m1 (i := 4) rfl ta_22 rfl rfl rfl ?_)) | (refine AOps.gt 19 rfl rfl rfl rfl rfl (op_load_m1 (i := 5) rfl ta_22 rfl rfl rfl ?_)) | (refine AOps.gt 19 rfl rfl rfl rfl rfl (op_load_c1 rfl ta_22 rfl rfl ?_))
        first | (refine AOps.gt 20 rfl rfl rfl rfl rfl (op_len rfl tu_22 rfl (.seq _ _) (fun n20 => ?_))) | (refine AOps.gt 20 rfl rfl rfl rfl rfl (op_len rfl tu_22 rfl (.own _ _ _) (fun n20 => ?_))) | (refine AOps.gt 20 rfl rfl rfl rfl rfl (op_len rfl tu_22 rfl (.nil 0) (fun n20 => ?_))) | (refine AOps.gt 20 rfl rfl rfl rfl rfl (op_len_arr rfl tu_22 rfl ?_))
        refine AOps.gt 21 rfl rfl rfl rfl rfl (op_geq rfl rfl rfl ?_); intro c21 h21
        refine AOps.st 22 rfl rfl rfl (op_pick rfl rfl rfl ?_)
        refine AOps.nil ?_
        refine BoolQ.mk rfl ?_ (by repeat' (first | exact SLe.refl _ | refine SLe.fresh rfl ?_)) (by first | exact MLe.none _ | exact MLe.refl _ | (repeat' (first | exact MLe.nil | exact MLe.refl _ | refine MLe.cons _ ?_ | refine MLe.drop _ ?_)))
        first | (simp_all; done) | (simp_all; omega)
      · skip
        refine AOps.gf 18 rfl rfl rfl rfl rfl ?_
        refine AOps.gf 19 rfl rfl rfl rfl rfl ?_
        refine AOps.gf 20 rfl rfl rfl rfl rfl ?_
        refine AOps.gf 21 rfl rfl rfl rfl rfl ?_
        refine AOps.st 22 rfl rfl rfl (op_pick rfl rfl rfl ?_)
        refine AOps.nil ?_
        refine BoolQ.mk rfl ?_ (by repeat' (first | exact SLe.refl _ | refine SLe.fresh rfl ?_)) (by first | exact MLe.none _ | exact MLe.refl _ | (repeat' (first | exact MLe.nil | exact MLe.refl _ | refine MLe.cons _ ?_ | refine MLe.drop _ ?_)))
        first | (simp_all; done) | (simp_all; omega)
    intro c22 h22
    refine go_code ?_
    rcases bool_split h22 with ⟨rfl, g22⟩ | ⟨rfl, g22⟩
    · refine c_cond_f rfl ?_
      refine c_skip ?_
      refine go_code ?_
      refine c_seq ?_
      obtain ⟨j, hj⟩ : ∃ j : Nat, firstAt s names 0 = j := ⟨(firstAt s names 0).toNat, by omega⟩
      obtain ⟨⟨yk, ys, yn, yks⟩, hy⟩ := get_some (l := ts) (i := j) (by omega)
      have hcy := Ty.cellss_get hy
      rw [hj]
      obtain rfl : k = 1 := by simpa using g9
      refine c_region ?_
      first | (refine AOps.st 24 rfl rfl rfl (op_load_m1 (i := 0) rfl ta_22 rfl rfl rfl ?_)) | (refine AOps.st 24 rfl rfl rfl (op_load_m1 (i := 1) rfl ta_22 rfl rfl rfl ?_)) | (refine AOps.st 24 rfl rfl rfl (op_load_m1 (i := 2) rfl ta_22 rfl rfl rfl ?_)) | (refine AOps.st 24 rfl rfl rfl (op_load_m1 (i := 3) rfl ta_22 rfl rfl rfl ?_)) | (refine AOps.st 24 rfl rfl rfl (op_load_m1 (i := 4) rfl ta_22 rfl rfl rfl ?_)) | (refine AOps.st 24 rfl rfl rfl (op_load_m1 (i := 5) rfl ta_22 rfl rfl rfl ?_)) | (refine AOps.st 24 rfl rfl rfl (op_load_c1 rfl ta_22 rfl rfl ?_))
      refine AOps.st 25 rfl rfl rfl (op_move rfl rfl ?_)
      first | (refine AOps.st 26 rfl rfl rfl (op_index rfl te_22 rfl (.seq _ _) rfl rfl (by assumption) ?_)) | (refine AOps.st 26 rfl rfl rfl (op_index (i := 0) rfl te_22 rfl (.seq _ _) rfl rfl (by first | rfl | assumption) ?_)) | (refine AOps.st 26 rfl rfl rfl (op_index (i := 1) rfl te_22 rfl (.seq _ _) rfl rfl (by first | rfl | assumption) ?_)) | (refine AOps.st 26 rfl rfl rfl (op_index rfl te_22 rfl (.own _ _ _) rfl rfl (by assumption) ?_)) | (refine AOps.st 26 rfl rfl rfl (op_index (i := 0) rfl te_22 rfl (.own _ _ _) rfl rfl (by first | rfl | assumption) ?_)) | (refine AOps.st 26 rfl rfl rfl (op_index (i := 1) rfl te_22 rfl (.own _ _ _) rfl rfl (by first | rfl | assumption) ?_)) | (refine AOps.st 26 rfl rfl rfl (op_index_arr rfl te_22 rfl rfl rfl (by omega) ?_))
      first | (refine AOps.st 27 rfl rfl rfl (op_load_m (i := 0) rfl ta_24 rfl rfl rfl rfl ?_)) | (refine AOps.st 27 rfl rfl rfl (op_load_m (i := 1) rfl ta_24 rfl rfl rfl rfl ?_)) | (refine AOps.st 27 rfl rfl rfl (op_load_m (i := 2) rfl ta_24 rfl rfl rfl rfl ?_)) | (refine AOps.st 27 rfl rfl rfl (op_load_m (i := 3) rfl ta_24 rfl rfl rfl rfl ?_)) | (refine AOps.st 27 rfl rfl rfl (op_load_m (i := 4) rfl ta_24 rfl rfl rfl rfl ?_)) | (refine AOps.st 27 rfl rfl rfl (op_load_m (i := 5) rfl ta_24 rfl rfl rfl rfl ?_)) | (refine AOps.st 27 rfl rfl rfl (op_load_c rfl ta_24 rfl rfl rfl ?_))
      refine AOps.st 28 rfl rfl rfl (op_callp (xs := [.tmp 27, .func 68]) rfl rfl (copy_c (.mk yk ys yn yks) (hts _ (List.mem_of_getElem? hy))) (by first | exact Les.refl _ | (repeat' (first | exact Les.refl _ | refine Les.cons ?_ ?_ | exact Le.refl _ | exact Le.own _ _ _ | exact Le.nil _ | refine Le.agg ?_))) ?_)
      first | (refine AOps.st0 rfl rfl (op_store (i := 0) rfl ts_24 rfl rfl rfl rfl rfl (Nat.le_of_ble_eq_true rfl) rfl ?_)) | (refine AOps.st0 rfl rfl (op_store (i := 1) rfl ts_24 rfl rfl rfl rfl rfl (Nat.le_of_ble_eq_true rfl) rfl ?_)) | (refine AOps.st0 rfl rfl (op_store (i := 2) rfl ts_24 rfl rfl rfl rfl rfl (Nat.le_of_ble_eq_true rfl) rfl ?_)) | (refine AOps.st0 rfl rfl (op_store (i := 3) rfl ts_24 rfl rfl rfl rfl rfl (Nat.le_of_ble_eq_true rfl) rfl ?_)) | (refine AOps.st0 rfl rfl (op_store (i := 4) rfl ts_24 rfl rfl rfl rfl rfl (Nat.le_of_ble_eq_true rfl) rfl ?_)) | (refine AOps.st0 rfl rfl (op_store (i := 5) rfl ts_24 rfl rfl rfl rfl rfl (Nat.le_of_ble_eq_true rfl) rfl ?_))
      refine AOps.st 5 rfl rfl rfl (op_assign rfl rfl ?_)
      refine AOps.nil ?_
      refine go_code ?_
      refine c_ret ?_
      exact out_ct (i := 0) rfl rfl rfl rfl ta_24 rfl (by repeat' (first | exact Le.refl _ | exact Le.own _ _ _ | exact Le.nil _ | refine Le.agg ?_ | refine Le.tup ?_ | exact Les.refl _ | refine Les.cons ?_ ?_)) (MLe.drop _ (MLe.drop _ (MLe.refl _))) ⟨rfl, .mk yk ys yn yks, true, rfl, by rw [putO_in hj, hy]; rfl⟩
    · refine c_cond_t rfl ?_
      refine c_seq ?_
      refine c_region ?_
      first | (refine AOps.st 23 rfl rfl rfl (op_load_m (i := 0) rfl ta_24 rfl rfl rfl rfl ?_)) | (refine AOps.st 23 rfl rfl rfl (op_load_m (i := 1) rfl ta_24 rfl rfl rfl rfl ?_)) | (refine AOps.st 23 rfl rfl rfl (op_load_m (i := 2) rfl ta_24 rfl rfl rfl rfl ?_)) | (refine AOps.st 23 rfl rfl rfl (op_load_m (i := 3) rfl ta_24 rfl rfl rfl rfl ?_)) | (refine AOps.st 23 rfl rfl rfl (op_load_m (i := 4) rfl ta_24 rfl rfl rfl rfl ?_)) | (refine AOps.st 23 rfl rfl rfl (op_load_m (i := 5) rfl ta_24 rfl rfl rfl rfl ?_)) | (refine AOps.st 23 rfl rfl rfl (op_load_c rfl ta_24 rfl rfl rfl ?_))
      first | (refine AOps.st0 rfl rfl (op_store (i := 0) rfl ts_24 rfl rfl rfl rfl rfl (Nat.le_of_ble_eq_true rfl) rfl ?_)) | (refine AOps.st0 rfl rfl (op_store (i := 1) rfl ts_24 rfl rfl rfl rfl rfl (Nat.le_of_ble_eq_true rfl) rfl ?_)) | (refine AOps.st0 rfl rfl (op_store (i := 2) rfl ts_24 rfl rfl rfl rfl rfl (Nat.le_of_ble_eq_true rfl) rfl ?_)) | (refine AOps.st0 rfl rfl (op_store (i := 3) rfl ts_24 rfl rfl rfl rfl rfl (Nat.le_of_ble_eq_true rfl) rfl ?_)) | (refine AOps.st0 rfl rfl (op_store (i := 4) rfl ts_24 rfl rfl rfl rfl rfl (Nat.le_of_ble_eq_true rfl) rfl ?_)) | (refine AOps.st0 rfl rfl (op_store (i := 5) rfl ts_24 rfl rfl rfl rfl rfl (Nat.le_of_ble_eq_true rfl) rfl ?_))
      refine AOps.st 5 rfl rfl rfl (op_assign rfl rfl ?_)
      refine AOps.nil ?_
      refine go_code ?_
      refine c_ret ?_
      exact out_ct (i := 0) rfl rfl rfl rfl ta_24 rfl (by repeat' (first | exact Le.refl _ | exact Le.own _ _ _ | exact Le.nil _ | refine Le.agg ?_ | refine Le.tup ?_ | exact Les.refl _ | refine Les.cons ?_ ?_)) (MLe.drop _ (MLe.drop _ (MLe.refl _))) ⟨rfl, .mk k s n ks, false, rfl, by rcases g22 with q | q; exact putO_out q; exact putO_big q⟩
  · refine c_cond_t rfl ?_
    refine c_seq ?_
    refine c_region ?_
    first | (refine AOps.st 10 rfl rfl rfl (op_load_m (i := 0) rfl ta_24 rfl rfl rfl rfl ?_)) | (refine AOps.st 10 rfl rfl rfl (op_load_m (i := 1) rfl ta_24 rfl rfl rfl rfl ?_)) | (refine AOps.st 10 rfl rfl rfl (op_load_m (i := 2) rfl ta_24 rfl rfl rfl rfl ?_)) | (refine AOps.st 10 rfl rfl rfl (op_load_m (i := 3) rfl ta_24 rfl rfl rfl rfl ?_)) | (refine AOps.st 10 rfl rfl rfl (op_load_m (i := 4) rfl ta_24 rfl rfl rfl rfl ?_)) | (refine AOps.st 10 rfl rfl rfl (op_load_m (i := 5) rfl ta_24 rfl rfl rfl rfl ?_)) | (refine AOps.st 10 rfl rfl rfl (op_load_c rfl ta_24 rfl rfl rfl ?_))
    first | (refine AOps.st0 rfl rfl (op_store (i := 0) rfl ts_24 rfl rfl rfl rfl rfl (Nat.le_of_ble_eq_true rfl) rfl ?_)) | (refine AOps.st0 rfl rfl (op_store (i := 1) rfl ts_24 rfl rfl rfl rfl rfl (Nat.le_of_ble_eq_true rfl) rfl ?_)) | (refine AOps.st0 rfl rfl (op_store (i := 2) rfl ts_24 rfl rfl rfl rfl rfl (Nat.le_of_ble_eq_true rfl) rfl ?_)) | (refine AOps.st0 rfl rfl (op_store (i := 3) rfl ts_24 rfl rfl rfl rfl rfl (Nat.le_of_ble_eq_true rfl) rfl ?_)) | (refine AOps.st0 rfl rfl (op_store (i := 4) rfl ts_24 rfl rfl rfl rfl rfl (Nat.le_of_ble_eq_true rfl) rfl ?_)) | (refine AOps.st0 rfl rfl (op_store (i := 5) rfl ts_24 rfl rfl rfl rfl rfl (Nat.le_of_ble_eq_true rfl) rfl ?_))
    refine AOps.st 5 rfl rfl rfl (op_assign rfl rfl ?_)
    refine AOps.nil ?_
    refine go_code ?_
    refine c_ret ?_
    exact out_ct (i := 0) rfl rfl rfl rfl ta_24 rfl (by repeat' (first | exact Le.refl _ | exact Le.own _ _ _ | exact Le.nil _ | refine Le.agg ?_ | refine Le.tup ?_ | exact Les.refl _ | refine Les.cons ?_ ?_)) (MLe.drop _ (MLe.drop _ (MLe.refl _))) ⟨rfl, .mk k s n ks, false, rfl, putO_not g9⟩
set_option maxRecDepth 100000 in
theorem Put_c (names : List ByteArray) (ts : List Ty) (t : Ty) (hts : ∀ t ∈ ts, t.size ≤ 1000000) (hmx : t.size ≤ 1000000) : PCall Try.prog 21 [.seq 1 (strs names), .seq 4 (Ty.cellss ts), .agg t.cells] (.agg (t.turn (putO names ts)).cells) := by
  have W := fun (b3 b4 : Nat) => turn_c (putO names ts) 66 [] [.ptr b3 0, .ptr b4 0] [.loc b3 [.seq 1 (strs names)], .loc b4 [.seq 4 (Ty.cellss ts)]] (fun x => PutF_c names ts b3 b4 hts x) t.size t (Nat.le_refl _) hmx
  generalize Ty.turn _ t = r at W ⊢
  obtain ⟨rk, rs, rn, rks⟩ := r
  obtain ⟨k, s, n, ks⟩ := t
  refine ACall.enter Try.func21 rfl (by kernel_rfl) rfl (Nat.le_of_ble_eq_true rfl) ?_
  refine c_start ?_
  refine c_seq ?_
  refine c_region ?_
  refine AOps.st 3 rfl rfl rfl (op_box rfl rfl rfl ?_); intro b3
  refine AOps.st 4 rfl rfl rfl (op_box rfl rfl rfl ?_); intro b4
  refine AOps.st 5 rfl rfl rfl (op_box rfl rfl rfl ?_); intro b5
  refine AOps.st 6 rfl rfl rfl (op_alloc rfl tz_24 rfl ?_); intro b6
  refine AOps.nil ?_
  refine go_code ?_
  refine c_seq ?_
  refine c_mem (M' := [.loc b6 zTy, .loc b5 _, .loc b3 [.seq 1 (strs names)], .loc b4 [.seq 4 (Ty.cellss ts)]]) (MImp.cons _ (MImp.cons _ (MImp.swap _ _ _))) ?_
  refine c_region ?_
  first | (refine AOps.st 7 rfl rfl rfl (op_load_m (i := 0) rfl ta_24 rfl rfl rfl rfl ?_)) | (refine AOps.st 7 rfl rfl rfl (op_load_m (i := 1) rfl ta_24 rfl rfl rfl rfl ?_)) | (refine AOps.st 7 rfl rfl rfl (op_load_m (i := 2) rfl ta_24 rfl rfl rfl rfl ?_)) | (refine AOps.st 7 rfl rfl rfl (op_load_m (i := 3) rfl ta_24 rfl rfl rfl rfl ?_)) | (refine AOps.st 7 rfl rfl rfl (op_load_m (i := 4) rfl ta_24 rfl rfl rfl rfl ?_)) | (refine AOps.st 7 rfl rfl rfl (op_load_m (i := 5) rfl ta_24 rfl rfl rfl rfl ?_)) | (refine AOps.st 7 rfl rfl rfl (op_load_c rfl ta_24 rfl rfl rfl ?_))
  refine AOps.st 8 rfl rfl rfl (op_makeFunc (fs := []) (cs := [.tmp 3, .tmp 4]) rfl rfl rfl ?_)
  refine AOps.st 9 rfl rfl rfl (op_callm (xs := [.tmp 7, .tmp 8])  [.loc b6 _, .loc b5 _] rfl rfl rfl (W b3 b4) (Les.refl _) (fun v9 M9 h9 => ?_))
  obtain ⟨rfl, rfl⟩ := h9
  first | (refine AOps.st0 rfl rfl (op_store (i := 0) rfl ts_24 rfl rfl rfl rfl rfl (Nat.le_of_ble_eq_true rfl) rfl ?_)) | (refine AOps.st0 rfl rfl (op_store (i := 1) rfl ts_24 rfl rfl rfl rfl rfl (Nat.le_of_ble_eq_true rfl) rfl ?_)) | (refine AOps.st0 rfl rfl (op_store (i := 2) rfl ts_24 rfl rfl rfl rfl rfl (Nat.le_of_ble_eq_true rfl) rfl ?_)) | (refine AOps.st0 rfl rfl (op_store (i := 3) rfl ts_24 rfl rfl rfl rfl rfl (Nat.le_of_ble_eq_true rfl) rfl ?_)) | (refine AOps.st0 rfl rfl (op_store (i := 4) rfl ts_24 rfl rfl rfl rfl rfl (Nat.le_of_ble_eq_true rfl) rfl ?_)) | (refine AOps.st0 rfl rfl (op_store (i := 5) rfl ts_24 rfl rfl rfl rfl rfl (Nat.le_of_ble_eq_true rfl) rfl ?_))
  refine AOps.nil ?_
  refine go_code ?_
  refine c_ret ?_
  exact out_cell (i := 0) rfl rfl rfl ta_24 rfl (by repeat' (first | exact Le.refl _ | exact Le.own _ _ _ | exact Le.nil _ | refine Le.agg ?_ | refine Le.tup ?_ | exact Les.refl _ | refine Les.cons ?_ ?_)) (by first | exact MLe.none _ | exact MLe.refl _ | (repeat' (first | exact MLe.nil | exact MLe.refl _ | refine MLe.cons _ ?_ | refine MLe.drop _ ?_))) ⟨rfl, rfl⟩
set_option maxRecDepth 100000 in
theorem SubF_c (x : Ty) (b2 : Nat) (p : Int × Ty) : ACall Try.prog 83 [.agg (subCells p), .ptr b2 0] [.loc b2 x.cells] (fun v M' => [.loc b2 x.cells] = M' ∧ ∃ c : Bool, v = .val (.bool c) ∧ (c = true ↔ (p.1 == x.num) = true)) := by
  obtain ⟨k, s, n, ks⟩ := x
  obtain ⟨pn, ⟨pk, ps, pnn, pks⟩⟩ := p
  refine ACall.enter Try.func83 rfl (by kernel_rfl) rfl (Nat.le_of_ble_eq_true rfl) ?_
  refine c_start ?_
  refine c_seq ?_
  refine c_region ?_
  refine AOps.st 2 rfl rfl rfl (op_box rfl rfl rfl ?_); intro b2
  refine AOps.st 3 rfl rfl rfl (op_assign rfl rfl ?_)
  refine AOps.nil ?_
  refine go_code ?_
  refine c_seq ?_
  refine c_region ?_
  first | (refine AOps.st 4 rfl rfl rfl (op_fieldAddr_m rfl tf_53_0 rfl ?_)) | (refine AOps.st 4 rfl rfl rfl (op_fieldAddr_c rfl tf_53_0 rfl rfl ?_))
  first | (refine AOps.st 5 rfl rfl rfl (op_load_m1 (i := 0) rfl ta_3 rfl rfl rfl ?_)) | (refine AOps.st 5 rfl rfl rfl (op_load_m1 (i := 1) rfl ta_3 rfl rfl rfl ?_)) | (refine AOps.st 5 rfl rfl rfl (op_load_m1 (i := 2) rfl ta_3 rfl rfl rfl ?_)) | (refine AOps.st 5 rfl rfl rfl (op_load_m1 (i := 3) rfl ta_3 rfl rfl rfl ?_)) | (refine AOps.st 5 rfl rfl rfl (op_load_m1 (i := 4) rfl ta_3 rfl rfl rfl ?_)) | (refine AOps.st 5 rfl rfl rfl (op_load_m1 (i := 5) rfl ta_3 rfl rfl rfl ?_)) | (refine AOps.st 5 rfl rfl rfl (op_load_c1 rfl ta_3 rfl rfl ?_))
  first | (refine AOps.st 6 rfl rfl rfl (op_fieldAddr_m rfl tf_24_2 rfl ?_)) | (refine AOps.st 6 rfl rfl rfl (op_fieldAddr_c rfl tf_24_2 rfl rfl ?_))
  first | (refine AOps.st 7 rfl rfl rfl (op_load_m1 (i := 0) rfl ta_3 rfl rfl rfl ?_)) | (refine AOps.st 7 rfl rfl rfl (op_load_m1 (i := 1) rfl ta_3 rfl rfl rfl ?_)) | (refine AOps.st 7 rfl rfl rfl (op_load_m1 (i := 2) rfl ta_3 rfl rfl rfl ?_)) | (refine AOps.st 7 rfl rfl rfl (op_load_m1 (i := 3) rfl ta_3 rfl rfl rfl ?_)) | (refine AOps.st 7 rfl rfl rfl (op_load_m1 (i := 4) rfl ta_3 rfl rfl rfl ?_)) | (refine AOps.st 7 rfl rfl rfl (op_load_m1 (i := 5) rfl ta_3 rfl rfl rfl ?_)) | (refine AOps.st 7 rfl rfl rfl (op_load_c1 rfl ta_3 rfl rfl ?_))
  refine AOps.st 8 rfl rfl rfl (op_eql rfl rfl rfl ?_); intro c8 h8
  refine AOps.st 3 rfl rfl rfl (op_assign rfl rfl ?_)
  refine AOps.nil ?_
  refine go_code ?_
  refine c_ret ?_
  exact out_tmp rfl rfl (Le.refl _) (MLe.drop _ (MLe.refl _)) ⟨rfl, _, rfl, h8.trans (by simp [Ty.num])⟩
set_option maxRecDepth 100000 in
theorem IndexFuncSub_c (subs : List (Int × Ty)) (q : Int × Ty → Bool) (f : FuncId) (fs cs : List AV) (Mc : Mem) (hf : ∀ p, ACall Try.prog f (fs ++ [.agg (subCells p)] ++ cs) Mc (fun v M' => Mc = M' ∧ ∃ c : Bool, v = .val (.bool c) ∧ (c = true ↔ q p = true))) :
    ACall Try.prog 82 [.seq 5 (subss subs), .clo (.func f) fs cs] Mc (fun v M' => v = .val (.int .i64 (firstP q subs 0)) ∧ Mc = M') := by
  have hl := subss_len subs
  refine ACall.enter Try.func82 rfl (by kernel_rfl) rfl (Nat.le_of_ble_eq_true rfl) ?_
  refine c_start ?_
  refine c_lens (t := 0) rfl (.seq _ _) (fun hmax => ?_)
  refine c_seq ?_
  refine c_region ?_
  refine AOps.st 4 rfl rfl rfl (op_assign rfl rfl ?_)
  refine AOps.nil ?_
  refine go_code ?_
  refine c_seq ?_
  refine c_seq ?_
  refine c_region ?_
  refine AOps.st 6 rfl rfl rfl (op_move rfl rfl ?_)
  first | (refine AOps.st 7 rfl rfl rfl (op_len rfl tu_34 rfl (.seq _ _) (fun n7 => ?_))) | (refine AOps.st 7 rfl rfl rfl (op_len rfl tu_34 rfl (.own _ _ _) (fun n7 => ?_))) | (refine AOps.st 7 rfl rfl rfl (op_len rfl tu_34 rfl (.nil 0) (fun n7 => ?_))) | (refine AOps.st 7 rfl rfl rfl (op_len_arr rfl tu_34 rfl ?_))
  refine AOps.st 8 rfl rfl rfl (op_move rfl rfl ?_)
  refine AOps.nil ?_
  refine go_code ?_
  refine c_block ?_
  refine c_loop (σ := Nat) (fun zz => match zz with | i => [(0, .seq 5 (subss subs)), (1, .clo (.func f) fs cs), (7, .val (.int .i64 (subss subs).length)), (8, .val (.int .i64 i))]) (fun zz => match zz with | i => Mc) (fun zz => match zz with | i => i ≤ subs.length ∧ ∀ x ∈ subs.take i, q x = false) (fun zz => match zz with | i => subs.length - i) (0) ?_ ?_ ?_ ?_
  · exact ⟨by omega, by simp⟩
  · exact (by repeat' (first | exact SLe.nil _ | refine SLe.cons rfl ?_ ?_ | exact Le.refl _ | exact Le.own _ _ _ | exact Le.nil _))
  · exact (by first | exact MLe.none _ | exact MLe.refl _ | (repeat' (first | exact MLe.nil | exact MLe.refl _ | refine MLe.cons _ ?_ | refine MLe.drop _ ?_)))
  rintro i hI
  obtain ⟨hi, hu⟩ := hI
  refine c_seq ?_
  refine c_region ?_
  refine AOps.st 9 rfl rfl rfl (op_lss rfl rfl rfl ?_); intro c9 h9
  refine AOps.nil ?_
  refine go_code ?_
  refine c_seq ?_
  rcases bool_split h9 with ⟨rfl, g9⟩ | ⟨rfl, g9⟩
  · refine c_cond_f rfl ?_
    refine c_exit ?_
    refine x_code ?_
    refine x_lp ?_
    refine x_here ?_
    refine go_code ?_
    refine c_seq ?_
    refine c_region ?_
    refine AOps.st 4 rfl rfl rfl (op_assign rfl rfl ?_)
    refine AOps.nil ?_
    refine go_code ?_
    refine c_ret ?_
    refine out_tmp rfl rfl (Le.refl _) (MLe.refl _) ⟨?_, rfl⟩
    rw [← firstP_drop q subs i hu, List.drop_eq_nil_of_le (by omega), firstP]
  · refine c_cond_t rfl ?_
    refine c_skip ?_
    refine go_code ?_
    refine c_seq ?_
    refine c_block ?_
    refine c_seq ?_
    refine c_region ?_
    refine AOps.st 10 rfl rfl rfl (op_move rfl rfl ?_)
    refine AOps.st 5 rfl rfl rfl (op_assign rfl rfl ?_)
    refine AOps.nil ?_
    refine go_code ?_
    refine c_seq ?_
    obtain ⟨⟨pn, ⟨pk, ps, pnn, pks⟩⟩, hx⟩ := get_some (l := subs) (i := i) (by omega)
    have hcx := subss_get hx
    refine c_region ?_
    refine AOps.st 11 rfl rfl rfl (op_move rfl rfl ?_)
    refine AOps.st 12 rfl rfl rfl (op_move rfl rfl ?_)
    refine AOps.st 13 rfl rfl rfl (op_move rfl rfl ?_)
    first | (refine AOps.st 14 rfl rfl rfl (op_index rfl te_34 rfl (.seq _ _) rfl rfl (by assumption) ?_)) | (refine AOps.st 14 rfl rfl rfl (op_index (i := 0) rfl te_34 rfl (.seq _ _) rfl rfl (by first | rfl | assumption) ?_)) | (refine AOps.st 14 rfl rfl rfl (op_index (i := 1) rfl te_34 rfl (.seq _ _) rfl rfl (by first | rfl | assumption) ?_)) | (refine AOps.st 14 rfl rfl rfl (op_index rfl te_34 rfl (.own _ _ _) rfl rfl (by assumption) ?_)) | (refine AOps.st 14 rfl rfl rfl (op_index (i := 0) rfl te_34 rfl (.own _ _ _) rfl rfl (by first | rfl | assumption) ?_)) | (refine AOps.st 14 rfl rfl rfl (op_index (i := 1) rfl te_34 rfl (.own _ _ _) rfl rfl (by first | rfl | assumption) ?_)) | (refine AOps.st 14 rfl rfl rfl (op_index_arr rfl te_34 rfl rfl rfl (by omega) ?_))
    first | (refine AOps.st 15 rfl rfl rfl (op_load_m (i := 0) rfl ta_53 rfl rfl rfl rfl ?_)) | (refine AOps.st 15 rfl rfl rfl (op_load_m (i := 1) rfl ta_53 rfl rfl rfl rfl ?_)) | (refine AOps.st 15 rfl rfl rfl (op_load_m (i := 2) rfl ta_53 rfl rfl rfl rfl ?_)) | (refine AOps.st 15 rfl rfl rfl (op_load_m (i := 3) rfl ta_53 rfl rfl rfl rfl ?_)) | (refine AOps.st 15 rfl rfl rfl (op_load_m (i := 4) rfl ta_53 rfl rfl rfl rfl ?_)) | (refine AOps.st 15 rfl rfl rfl (op_load_m (i := 5) rfl ta_53 rfl rfl rfl rfl ?_)) | (refine AOps.st 15 rfl rfl rfl (op_load_c rfl ta_53 rfl rfl rfl ?_))
    refine AOps.st 16 rfl rfl rfl (op_callvm (xs := [.tmp 15])  [] rfl rfl rfl rfl (hf (pn, .mk pk ps pnn pks)) (Les.refl _) (fun v16 M16 h16 => ?_))
    obtain ⟨rfl, c16, rfl, h16⟩ := h16
    refine AOps.nil ?_
    refine go_code ?_
    rcases bool_split h16 with ⟨rfl, g16⟩ | ⟨rfl, g16⟩
    · refine c_cond_f rfl ?_
      refine c_skip ?_
      refine go_blk ?_
      refine go_code ?_
      refine c_region ?_
      first | (refine AOps.st 18 rfl rfl rfl (op_add rfl rfl rfl (IntWalk.i64_in _ (by omega)) ?_)) | (refine AOps.st 18 rfl rfl rfl (op_add rfl rfl rfl rfl ?_))
      refine AOps.st 8 rfl rfl rfl (op_move rfl rfl ?_)
      refine AOps.nil ?_
      refine go_lp ?_
      refine ⟨i + 1, ⟨by omega, ?_⟩, by simp; omega, (by repeat' (first | exact SLe.nil _ | refine SLe.cons rfl ?_ ?_ | exact Le.refl _ | exact Le.own _ _ _ | exact Le.nil _)), MLe.refl _⟩
      rw [take_snoc hx]
      intro x hxm
      rcases List.mem_append.1 hxm with r | r
      · exact hu x r
      · simp at r; subst r; simpa using g16
    · refine c_cond_t rfl ?_
      refine c_seq ?_
      refine c_region ?_
      refine AOps.st 17 rfl rfl rfl (op_move rfl rfl ?_)
      refine AOps.st 4 rfl rfl rfl (op_assign rfl rfl ?_)
      refine AOps.nil ?_
      refine go_code ?_
      refine c_ret ?_
      refine out_tmp rfl rfl (Le.refl _) (MLe.refl _) ⟨?_, rfl⟩
      rw [← firstP_drop q subs i hu, drop_at hx, firstP, if_pos g16]
set_option maxRecDepth 100000 in
theorem ApplyF_c (subs : List (Int × Ty)) (bc : Nat) (hts : ∀ p ∈ subs, p.2.size ≤ 1000000) (x : Ty) : ACall Try.prog 81 [.agg x.cells, .ptr bc 0] [.loc bc [.seq 5 (subss subs)]] (fun v M' => [.loc bc [.seq 5 (subss subs)]] = M' ∧ ∃ (y : Ty) (c : Bool), v = .tup [.agg y.cells, .val (.bool c)] ∧ applyO subs x = if c then some y else none) := by
  have hl := subss_len subs
  have hff := firstP_find (fun p => p.1 == x.num) subs 0
  have I := fun (b : Nat) => IndexFuncSub_c subs (fun p => p.1 == x.num) 83 [] [.ptr b 0] [.loc b x.cells] (fun p => SubF_c x b p)
  obtain ⟨k, s, n, ks⟩ := x
  refine ACall.enter Try.func81 rfl (by kernel_rfl) rfl (Nat.le_of_ble_eq_true rfl) ?_
  refine c_start ?_
  refine c_seq ?_
  refine c_region ?_
  refine AOps.st 2 rfl rfl rfl (op_box rfl rfl rfl ?_); intro b2
  refine AOps.st 3 rfl rfl rfl (op_alloc rfl tz_24 rfl ?_); intro b3
  refine AOps.st 4 rfl rfl rfl (op_assign rfl rfl ?_)
  refine AOps.nil ?_
  refine go_code ?_
  refine c_seq ?_
  refine c_seq ?_
  refine c_region ?_
  first | (refine AOps.st 6 rfl rfl rfl (op_fieldAddr_m rfl tf_24_0 rfl ?_)) | (refine AOps.st 6 rfl rfl rfl (op_fieldAddr_c rfl tf_24_0 rfl rfl ?_))
  first | (refine AOps.st 7 rfl rfl rfl (op_load_m1 (i := 0) rfl ta_3 rfl rfl rfl ?_)) | (refine AOps.st 7 rfl rfl rfl (op_load_m1 (i := 1) rfl ta_3 rfl rfl rfl ?_)) | (refine AOps.st 7 rfl rfl rfl (op_load_m1 (i := 2) rfl ta_3 rfl rfl rfl ?_)) | (refine AOps.st 7 rfl rfl rfl (op_load_m1 (i := 3) rfl ta_3 rfl rfl rfl ?_)) | (refine AOps.st 7 rfl rfl rfl (op_load_m1 (i := 4) rfl ta_3 rfl rfl rfl ?_)) | (refine AOps.st 7 rfl rfl rfl (op_load_m1 (i := 5) rfl ta_3 rfl rfl rfl ?_)) | (refine AOps.st 7 rfl rfl rfl (op_load_c1 rfl ta_3 rfl rfl ?_))
  refine AOps.st 8 rfl rfl rfl (op_neq rfl rfl rfl ?_); intro c8 h8
  refine AOps.nil ?_
  refine go_code ?_
  rcases bool_split h8 with ⟨rfl, g8⟩ | ⟨rfl, g8⟩
  · refine c_cond_f rfl ?_
    refine c_skip ?_
    refine go_code ?_
    refine c_seq ?_
    refine c_mem (M' := [.loc b3 zTy, .loc bc [.seq 5 (subss subs)], .loc b2 (Ty.cells (.mk k s n ks))]) (MImp.cons _ (MImp.swap _ _ _)) ?_
    refine c_region ?_
    first | (refine AOps.st 10 rfl rfl rfl (op_load_m1 (i := 0) rfl ta_34 rfl rfl rfl ?_)) | (refine AOps.st 10 rfl rfl rfl (op_load_m1 (i := 1) rfl ta_34 rfl rfl rfl ?_)) | (refine AOps.st 10 rfl rfl rfl (op_load_m1 (i := 2) rfl ta_34 rfl rfl rfl ?_)) | (refine AOps.st 10 rfl rfl rfl (op_load_m1 (i := 3) rfl ta_34 rfl rfl rfl ?_)) | (refine AOps.st 10 rfl rfl rfl (op_load_m1 (i := 4) rfl ta_34 rfl rfl rfl ?_)) | (refine AOps.st 10 rfl rfl rfl (op_load_m1 (i := 5) rfl ta_34 rfl rfl rfl ?_)) | (refine AOps.st 10 rfl rfl rfl (op_load_c1 rfl ta_34 rfl rfl ?_))
    refine AOps.st 11 rfl rfl rfl (op_makeFunc (fs := []) (cs := [.tmp 2]) rfl rfl rfl ?_)
    refine AOps.st 12 rfl rfl rfl (op_callm (xs := [.tmp 10, .tmp 11])  [.loc b3 _, .loc bc _] rfl rfl rfl (I b2) (Les.refl _) (fun v12 M12 h12 => ?_))
    obtain ⟨rfl, rfl⟩ := h12
    refine AOps.st 5 rfl rfl rfl (op_assign rfl rfl ?_)
    refine AOps.nil ?_
    refine go_code ?_
    refine c_seq ?_
    refine c_seq ?_
    refine c_region ?_
    refine AOps.st 13 rfl rfl rfl (op_move rfl rfl ?_)
    refine AOps.st 14 rfl rfl rfl (op_lss rfl rfl rfl ?_); intro c14 h14
    refine AOps.nil ?_
    refine go_code ?_
    rcases bool_split h14 with ⟨rfl, g14⟩ | ⟨rfl, g14⟩
    · refine c_cond_f rfl ?_
      refine c_skip ?_
      refine go_code ?_
      refine c_seq ?_
      obtain ⟨j, hj⟩ : ∃ j : Nat, firstP (fun p => p.1 == Ty.num (.mk k s n ks)) subs 0 = j := ⟨(firstP (fun p => p.1 == Ty.num (.mk k s n ks)) subs 0).toNat, by omega⟩
      obtain ⟨_, hfj, hjl⟩ := hff.2 j hj
      simp only [Nat.sub_zero] at hfj hjl
      obtain ⟨⟨pn, ⟨yk, ys, yn, yks⟩⟩, hy⟩ := get_some (l := subs) (i := j) hjl
      have hcy := subss_get hy
      rw [hj]
      obtain rfl : k = 2 := by simpa using g8
      refine c_region ?_
      first | (refine AOps.st 16 rfl rfl rfl (op_load_m1 (i := 0) rfl ta_34 rfl rfl rfl ?_)) | (refine AOps.st 16 rfl rfl rfl (op_load_m1 (i := 1) rfl ta_34 rfl rfl rfl ?_)) | (refine AOps.st 16 rfl rfl rfl (op_load_m1 (i := 2) rfl ta_34 rfl rfl rfl ?_)) | (refine AOps.st 16 rfl rfl rfl (op_load_m1 (i := 3) rfl ta_34 rfl rfl rfl ?_)) | (refine AOps.st 16 rfl rfl rfl (op_load_m1 (i := 4) rfl ta_34 rfl rfl rfl ?_)) | (refine AOps.st 16 rfl rfl rfl (op_load_m1 (i := 5) rfl ta_34 rfl rfl rfl ?_)) | (refine AOps.st 16 rfl rfl rfl (op_load_c1 rfl ta_34 rfl rfl ?_))
      refine AOps.st 17 rfl rfl rfl (op_move rfl rfl ?_)
      first | (refine AOps.st 18 rfl rfl rfl (op_index rfl te_34 rfl (.seq _ _) rfl rfl (by assumption) ?_)) | (refine AOps.st 18 rfl rfl rfl (op_index (i := 0) rfl te_34 rfl (.seq _ _) rfl rfl (by first | rfl | assumption) ?_)) | (refine AOps.st 18 rfl rfl rfl (op_index (i := 1) rfl te_34 rfl (.seq _ _) rfl rfl (by first | rfl | assumption) ?_)) | (refine AOps.st 18 rfl rfl rfl (op_index rfl te_34 rfl (.own _ _ _) rfl rfl (by assumption) ?_)) | (refine AOps.st 18 rfl rfl rfl (op_index (i := 0) rfl te_34 rfl (.own _ _ _) rfl rfl (by first | rfl | assumption) ?_)) | (refine AOps.st 18 rfl rfl rfl (op_index (i := 1) rfl te_34 rfl (.own _ _ _) rfl rfl (by first | rfl | assumption) ?_)) | (refine AOps.st 18 rfl rfl rfl (op_index_arr rfl te_34 rfl rfl rfl (by omega) ?_))
      first | (refine AOps.st 19 rfl rfl rfl (op_fieldAddr_m rfl tf_53_1 rfl ?_)) | (refine AOps.st 19 rfl rfl rfl (op_fieldAddr_c rfl tf_53_1 rfl rfl ?_))
      first | (refine AOps.st 20 rfl rfl rfl (op_load_m (i := 0) rfl ta_24 rfl rfl rfl rfl ?_)) | (refine AOps.st 20 rfl rfl rfl (op_load_m (i := 1) rfl ta_24 rfl rfl rfl rfl ?_)) | (refine AOps.st 20 rfl rfl rfl (op_load_m (i := 2) rfl ta_24 rfl rfl rfl rfl ?_)) | (refine AOps.st 20 rfl rfl rfl (op_load_m (i := 3) rfl ta_24 rfl rfl rfl rfl ?_)) | (refine AOps.st 20 rfl rfl rfl (op_load_m (i := 4) rfl ta_24 rfl rfl rfl rfl ?_)) | (refine AOps.st 20 rfl rfl rfl (op_load_m (i := 5) rfl ta_24 rfl rfl rfl rfl ?_)) | (refine AOps.st 20 rfl rfl rfl (op_load_c rfl ta_24 rfl rfl rfl ?_))
      refine AOps.st 21 rfl rfl rfl (op_callp (xs := [.tmp 20, .func 68]) rfl rfl (copy_c (.mk yk ys yn yks) (hts _ (List.mem_of_getElem? hy))) (by first | exact Les.refl _ | (repeat' (first | exact Les.refl _ | refine Les.cons ?_ ?_ | exact Le.refl _ | exact Le.own _ _ _ | exact Le.nil _ | refine Le.agg ?_))) ?_)
      first | (refine AOps.st0 rfl rfl (op_store (i := 0) rfl ts_24 rfl rfl rfl rfl rfl (Nat.le_of_ble_eq_true rfl) rfl ?_)) | (refine AOps.st0 rfl rfl (op_store (i := 1) rfl ts_24 rfl rfl rfl rfl rfl (Nat.le_of_ble_eq_true rfl) rfl ?_)) | (refine AOps.st0 rfl rfl (op_store (i := 2) rfl ts_24 rfl rfl rfl rfl rfl (Nat.le_of_ble_eq_true rfl) rfl ?_)) | (refine AOps.st0 rfl rfl (op_store (i := 3) rfl ts_24 rfl rfl rfl rfl rfl (Nat.le_of_ble_eq_true rfl) rfl ?_)) | (refine AOps.st0 rfl rfl (op_store (i := 4) rfl ts_24 rfl rfl rfl rfl rfl (Nat.le_of_ble_eq_true rfl) rfl ?_)) | (refine AOps.st0 rfl rfl (op_store (i := 5) rfl ts_24 rfl rfl rfl rfl rfl (Nat.le_of_ble_eq_true rfl) rfl ?_))
      refine AOps.st 4 rfl rfl rfl (op_assign rfl rfl ?_)
      refine AOps.nil ?_
      refine go_code ?_
      refine c_ret ?_
      exact out_ct (i := 0) rfl rfl rfl rfl ta_24 rfl (by repeat' (first | exact Le.refl _ | exact Le.own _ _ _ | exact Le.nil _ | refine Le.agg ?_ | refine Le.tup ?_ | exact Les.refl _ | refine Les.cons ?_ ?_)) (MLe.drop _ (MLe.cons _ (MLe.drop _ (MLe.refl _)))) ⟨rfl, .mk yk ys yn yks, true, rfl, by unfold applyO; rw [hfj, hy]; rfl⟩
    · refine c_cond_t rfl ?_
      refine c_seq ?_
      refine c_region ?_
      first | (refine AOps.st 15 rfl rfl rfl (op_load_m (i := 0) rfl ta_24 rfl rfl rfl rfl ?_)) | (refine AOps.st 15 rfl rfl rfl (op_load_m (i := 1) rfl ta_24 rfl rfl rfl rfl ?_)) | (refine AOps.st 15 rfl rfl rfl (op_load_m (i := 2) rfl ta_24 rfl rfl rfl rfl ?_)) | (refine AOps.st 15 rfl rfl rfl (op_load_m (i := 3) rfl ta_24 rfl rfl rfl rfl ?_)) | (refine AOps.st 15 rfl rfl rfl (op_load_m (i := 4) rfl ta_24 rfl rfl rfl rfl ?_)) | (refine AOps.st 15 rfl rfl rfl (op_load_m (i := 5) rfl ta_24 rfl rfl rfl rfl ?_)) | (refine AOps.st 15 rfl rfl rfl (op_load_c rfl ta_24 rfl rfl rfl ?_))
      first | (refine AOps.st0 rfl rfl (op_store (i := 0) rfl ts_24 rfl rfl rfl rfl rfl (Nat.le_of_ble_eq_true rfl) rfl ?_)) | (refine AOps.st0 rfl rfl (op_store (i := 1) rfl ts_24 rfl rfl rfl rfl rfl (Nat.le_of_ble_eq_true rfl) rfl ?_)) | (refine AOps.st0 rfl rfl (op_store (i := 2) rfl ts_24 rfl rfl rfl rfl rfl (Nat.le_of_ble_eq_true rfl) rfl ?_)) | (refine AOps.st0 rfl rfl (op_store (i := 3) rfl ts_24 rfl rfl rfl rfl rfl (Nat.le_of_ble_eq_true rfl) rfl ?_)) | (refine AOps.st0 rfl rfl (op_store (i := 4) rfl ts_24 rfl rfl rfl rfl rfl (Nat.le_of_ble_eq_true rfl) rfl ?_)) | (refine AOps.st0 rfl rfl (op_store (i := 5) rfl ts_24 rfl rfl rfl rfl rfl (Nat.le_of_ble_eq_true rfl) rfl ?_))
      refine AOps.st 4 rfl rfl rfl (op_assign rfl rfl ?_)
      refine AOps.nil ?_
      refine go_code ?_
      refine c_ret ?_
      exact out_ct (i := 0) rfl rfl rfl rfl ta_24 rfl (by repeat' (first | exact Le.refl _ | exact Le.own _ _ _ | exact Le.nil _ | refine Le.agg ?_ | refine Le.tup ?_ | exact Les.refl _ | refine Les.cons ?_ ?_)) (MLe.drop _ (MLe.cons _ (MLe.drop _ (MLe.refl _)))) ⟨rfl, .mk k s n ks, false, rfl, by unfold applyO; rw [hff.1 g14]; simp⟩
  · refine c_cond_t rfl ?_
    refine c_seq ?_
    refine c_region ?_
    first | (refine AOps.st 9 rfl rfl rfl (op_load_m (i := 0) rfl ta_24 rfl rfl rfl rfl ?_)) | (refine AOps.st 9 rfl rfl rfl (op_load_m (i := 1) rfl ta_24 rfl rfl rfl rfl ?_)) | (refine AOps.st 9 rfl rfl rfl (op_load_m (i := 2) rfl ta_24 rfl rfl rfl rfl ?_)) | (refine AOps.st 9 rfl rfl rfl (op_load_m (i := 3) rfl ta_24 rfl rfl rfl rfl ?_)) | (refine AOps.st 9 rfl rfl rfl (op_load_m (i := 4) rfl ta_24 rfl rfl rfl rfl ?_)) | (refine AOps.st 9 rfl rfl rfl (op_load_m (i := 5) rfl ta_24 rfl rfl rfl rfl ?_)) | (refine AOps.st 9 rfl rfl rfl (op_load_c rfl ta_24 rfl rfl rfl ?_))
    first | (refine AOps.st0 rfl rfl (op_store (i := 0) rfl ts_24 rfl rfl rfl rfl rfl (Nat.le_of_ble_eq_true rfl) rfl ?_)) | (refine AOps.st0 rfl rfl (op_store (i := 1) rfl ts_24 rfl rfl rfl rfl rfl (Nat.le_of_ble_eq_true rfl) rfl ?_)) | (refine AOps.st0 rfl rfl (op_store (i := 2) rfl ts_24 rfl rfl rfl rfl rfl (Nat.le_of_ble_eq_true rfl) rfl ?_)) | (refine AOps.st0 rfl rfl (op_store (i := 3) rfl ts_24 rfl rfl rfl rfl rfl (Nat.le_of_ble_eq_true rfl) rfl ?_)) | (refine AOps.st0 rfl rfl (op_store (i := 4) rfl ts_24 rfl rfl rfl rfl rfl (Nat.le_of_ble_eq_true rfl) rfl ?_)) | (refine AOps.st0 rfl rfl (op_store (i := 5) rfl ts_24 rfl rfl rfl rfl rfl (Nat.le_of_ble_eq_true rfl) rfl ?_))
    refine AOps.st 4 rfl rfl rfl (op_assign rfl rfl ?_)
    refine AOps.nil ?_
    refine go_code ?_
    refine c_ret ?_
    exact out_ct (i := 0) rfl rfl rfl rfl ta_24 rfl (by repeat' (first | exact Le.refl _ | exact Le.own _ _ _ | exact Le.nil _ | refine Le.agg ?_ | refine Le.tup ?_ | exact Les.refl _ | refine Les.cons ?_ ?_)) (MLe.drop _ (MLe.drop _ (MLe.refl _))) ⟨rfl, .mk k s n ks, false, rfl, applyO_not g8⟩
set_option maxRecDepth 100000 in
theorem Apply_c (subs : List (Int × Ty)) (t : Ty) (hts : ∀ p ∈ subs, p.2.size ≤ 1000000) (hmx : t.size ≤ 1000000) : PCall Try.prog 37 [.seq 5 (subss subs), .agg t.cells] (.agg (t.turn (applyO subs)).cells) := by
  have W := fun (b : Nat) => turn_c (applyO subs) 81 [] [.ptr b 0] [.loc b [.seq 5 (subss subs)]] (fun x => ApplyF_c subs b hts x) t.size t (Nat.le_refl _) hmx
  generalize Ty.turn _ t = r at W ⊢
  obtain ⟨rk, rs, rn, rks⟩ := r
  obtain ⟨k, s, n, ks⟩ := t
  refine ACall.enter Try.func37 rfl (by kernel_rfl) rfl (Nat.le_of_ble_eq_true rfl) ?_
  refine c_start ?_
  refine c_seq ?_
  refine c_region ?_
  refine AOps.st 2 rfl rfl rfl (op_box rfl rfl rfl ?_); intro b2
  refine AOps.st 3 rfl rfl rfl (op_box rfl rfl rfl ?_); intro b3
  refine AOps.st 4 rfl rfl rfl (op_alloc rfl tz_24 rfl ?_); intro b4
  refine AOps.nil ?_
  refine go_code ?_
  refine c_seq ?_
  refine c_region ?_
  first | (refine AOps.st 5 rfl rfl rfl (op_load_m (i := 0) rfl ta_24 rfl rfl rfl rfl ?_)) | (refine AOps.st 5 rfl rfl rfl (op_load_m (i := 1) rfl ta_24 rfl rfl rfl rfl ?_)) | (refine AOps.st 5 rfl rfl rfl (op_load_m (i := 2) rfl ta_24 rfl rfl rfl rfl ?_)) | (refine AOps.st 5 rfl rfl rfl (op_load_m (i := 3) rfl ta_24 rfl rfl rfl rfl ?_)) | (refine AOps.st 5 rfl rfl rfl (op_load_m (i := 4) rfl ta_24 rfl rfl rfl rfl ?_)) | (refine AOps.st 5 rfl rfl rfl (op_load_m (i := 5) rfl ta_24 rfl rfl rfl rfl ?_)) | (refine AOps.st 5 rfl rfl rfl (op_load_c rfl ta_24 rfl rfl rfl ?_))
  refine AOps.st 6 rfl rfl rfl (op_makeFunc (fs := []) (cs := [.tmp 2]) rfl rfl rfl ?_)
  refine AOps.st 7 rfl rfl rfl (op_callm (xs := [.tmp 5, .tmp 6])  [.loc b4 _, .loc b3 _] rfl rfl rfl (W b2) (Les.refl _) (fun v7 M7 h7 => ?_))
  obtain ⟨rfl, rfl⟩ := h7
  first | (refine AOps.st0 rfl rfl (op_store (i := 0) rfl ts_24 rfl rfl rfl rfl rfl (Nat.le_of_ble_eq_true rfl) rfl ?_)) | (refine AOps.st0 rfl rfl (op_store (i := 1) rfl ts_24 rfl rfl rfl rfl rfl (Nat.le_of_ble_eq_true rfl) rfl ?_)) | (refine AOps.st0 rfl rfl (op_store (i := 2) rfl ts_24 rfl rfl rfl rfl rfl (Nat.le_of_ble_eq_true rfl) rfl ?_)) | (refine AOps.st0 rfl rfl (op_store (i := 3) rfl ts_24 rfl rfl rfl rfl rfl (Nat.le_of_ble_eq_true rfl) rfl ?_)) | (refine AOps.st0 rfl rfl (op_store (i := 4) rfl ts_24 rfl rfl rfl rfl rfl (Nat.le_of_ble_eq_true rfl) rfl ?_)) | (refine AOps.st0 rfl rfl (op_store (i := 5) rfl ts_24 rfl rfl rfl rfl rfl (Nat.le_of_ble_eq_true rfl) rfl ?_))
  refine AOps.nil ?_
  refine go_code ?_
  refine c_ret ?_
  exact out_cell (i := 0) rfl rfl rfl ta_24 rfl (by repeat' (first | exact Le.refl _ | exact Le.own _ _ _ | exact Le.nil _ | refine Le.agg ?_ | refine Le.tup ?_ | exact Les.refl _ | refine Les.cons ?_ ?_)) (by first | exact MLe.none _ | exact MLe.refl _ | (repeat' (first | exact MLe.nil | exact MLe.refl _ | refine MLe.cons _ ?_ | refine MLe.drop _ ?_))) ⟨rfl, rfl⟩
end Go.Proofs.Ytjgjnheeohfmmaa
