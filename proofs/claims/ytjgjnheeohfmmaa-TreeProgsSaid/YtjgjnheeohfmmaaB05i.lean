/- tree.parts as an iterator; tree.Size and tree.Deep; cognateref05.Parts, Size, Deep -/
import Derived.Test.YtjgjnheeohfmmaaB05p
namespace Go.Proofs.Ytjgjnheeohfmmaa
open Go.RowKit
def arg1 (e : Ex) : List AV := [.agg e.cells]
set_option maxHeartbeats 4000000 in
set_option maxRecDepth 100000 in
theorem all_y (l : Nat) (J Jx : Nat → Mem → Prop) (ks : List Ex) (k0 : Nat) (hy : ∀ i x M, ks[i]? = some x → J (k0 + i) M → YCall Try.prog l (arg1 x) M (fun v M' => (v = .val (.bool true) ∧ J (k0 + i + 1) M') ∨ (v = .val (.bool false) ∧ Jx (k0 + i + 1) M'))) (M0 : Mem) (h0 : J k0 M0) :
    ACall Try.prog 116 [.seq 11 (Ex.cellss ks), .cptr [yv l]] M0 (fun v M' => (v = .val (.bool true) ∧ J (k0 + ks.length) M') ∨ (v = .val (.bool false) ∧ ∃ k, k ≤ k0 + ks.length ∧ Jx k M')) := by
  have hl := Ex.cellss_len ks
  refine ACall.enter Try.func116 rfl (by kernel_rfl) rfl (Nat.le_of_ble_eq_true rfl) ?_
  refine c_start ?_
  refine c_lens (t := 0) rfl (.seq _ _) (fun hmax => ?_)
  refine c_seq ?_
  refine c_region ?_
  refine AOps.st 3 rfl rfl rfl (op_assign rfl rfl ?_)
  refine AOps.nil ?_
  refine go_code ?_
  refine c_seq ?_
  refine c_seq ?_
  refine c_region ?_
  refine AOps.st 6 rfl rfl rfl (op_move rfl rfl ?_)
  refine AOps.st 7 rfl rfl rfl (op_len rfl tu_56 rfl (.seq _ _) (fun n7 => ?_))
  refine AOps.st 8 rfl rfl rfl (op_move rfl rfl ?_)
  refine AOps.nil ?_
  refine go_code ?_
  refine c_block ?_
  refine c_loop (σ := Nat × Mem) (fun zz => match zz with | (i, M) => [(1, .cptr [yv l]), (6, .seq 11 (Ex.cellss ks)), (7, .val (.int .i64 (Ex.cellss ks).length)), (8, .val (.int .i64 i))]) (fun zz => match zz with | (i, M) => M) (fun zz => match zz with | (i, M) => i ≤ ks.length ∧ J (k0 + i) M) (fun zz => match zz with | (i, M) => ks.length - i) ((0, M0)) ?_ ?_ ?_ ?_
  · exact ⟨by omega, h0⟩
  · exact (by repeat' (first | exact SLe.nil _ | refine SLe.cons rfl ?_ ?_ | exact Le.refl _ | exact Le.own _ _ _ | exact Le.nil _))
  · exact (by first | exact MLe.none _ | exact MLe.refl _ | (repeat' (first | exact MLe.nil | exact MLe.refl _ | refine MLe.cons _ ?_ | refine MLe.drop _ ?_)))
  rintro ⟨i, M⟩ hI
  try dsimp only at hI ⊢
  obtain ⟨hi, hJ⟩ := hI
  refine c_seq ?_
  refine c_region ?_
  refine AOps.st 9 rfl rfl rfl (op_lss rfl rfl rfl ?_); intro c9 h9
  refine AOps.nil ?_
  refine go_code ?_
  refine c_seq ?_
  rcases bool_split h9 with ⟨rfl, g9⟩ | ⟨rfl, g9⟩
  · refine c_cond_f rfl ?_
    refine c_exit ?_
    refine x_code ?_
    refine x_lp ?_
    refine x_here ?_
    refine go_code ?_
    refine c_seq ?_
    refine c_region ?_
    refine AOps.st 3 rfl rfl rfl (op_assign rfl rfl ?_)
    refine AOps.nil ?_
    refine go_code ?_
    refine c_ret ?_
    refine out_tmp rfl rfl (Le.refl _) (MLe.refl _) (.inl ⟨rfl, ?_⟩)
    rwa [show i = ks.length from by omega] at hJ
  · refine c_cond_t rfl ?_
    refine c_skip ?_
    refine go_code ?_
    refine c_seq ?_
    refine c_block ?_
    refine c_seq ?_
    obtain ⟨⟨k, s, n, ⟨tk, ts, tn, tks⟩, kks, al, bs, p⟩, hx⟩ := get_some (l := ks) (i := i) (by omega)
    have hcx := Ex.cellss_get hx
    refine c_region ?_
    refine AOps.st 10 rfl rfl rfl (op_index rfl te_56 rfl (.seq _ _) rfl rfl (by assumption) ?_)
    first | (refine AOps.st 11 rfl rfl rfl (op_load_m (cs' := [_, _, _, _, _, _, _, _, _, _, _]) (i := 0) rfl ta_60 rfl rfl rfl rfl ?_)) | (refine AOps.st 11 rfl rfl rfl (op_load_m (cs' := [_, _, _, _, _, _, _, _, _, _, _]) (i := 1) rfl ta_60 rfl rfl rfl rfl ?_)) | (refine AOps.st 11 rfl rfl rfl (op_load_m (cs' := [_, _, _, _, _, _, _, _, _, _, _]) (i := 2) rfl ta_60 rfl rfl rfl rfl ?_)) | (refine AOps.st 11 rfl rfl rfl (op_load_m (cs' := [_, _, _, _, _, _, _, _, _, _, _]) (i := 3) rfl ta_60 rfl rfl rfl rfl ?_)) | (refine AOps.st 11 rfl rfl rfl (op_load_m (cs' := [_, _, _, _, _, _, _, _, _, _, _]) (i := 4) rfl ta_60 rfl rfl rfl rfl ?_)) | (refine AOps.st 11 rfl rfl rfl (op_load_m (cs' := [_, _, _, _, _, _, _, _, _, _, _]) (i := 5) rfl ta_60 rfl rfl rfl rfl ?_)) | (refine AOps.st 11 rfl rfl rfl (op_load_c (cs' := [_, _, _, _, _, _, _, _, _, _, _]) rfl ta_60 rfl rfl rfl ?_))
    refine AOps.st 5 rfl rfl rfl (op_alloce (cs' := [_, _, _, _, _, _, _, _, _, _, _]) rfl tz_60 rfl rfl ?_); intro b5
    refine AOps.st0 rfl rfl (op_store (cs' := [_, _, _, _, _, _, _, _, _, _, _]) (i := 0) rfl ts_60 rfl rfl rfl rfl rfl (Nat.le_of_ble_eq_true rfl) rfl ?_)
    refine AOps.nil ?_
    refine go_code ?_
    refine c_seq ?_
    refine c_region ?_
    first | (refine AOps.st 12 rfl rfl rfl (op_load_m1 (i := 0) rfl ta_63 rfl rfl rfl ?_)) | (refine AOps.st 12 rfl rfl rfl (op_load_m1 (i := 1) rfl ta_63 rfl rfl rfl ?_)) | (refine AOps.st 12 rfl rfl rfl (op_load_m1 (i := 2) rfl ta_63 rfl rfl rfl ?_)) | (refine AOps.st 12 rfl rfl rfl (op_load_m1 (i := 3) rfl ta_63 rfl rfl rfl ?_)) | (refine AOps.st 12 rfl rfl rfl (op_load_m1 (i := 4) rfl ta_63 rfl rfl rfl ?_)) | (refine AOps.st 12 rfl rfl rfl (op_load_m1 (i := 5) rfl ta_63 rfl rfl rfl ?_)) | (refine AOps.st 12 rfl rfl rfl (op_load_c1 rfl ta_63 rfl rfl ?_))
    refine AOps.st 13 rfl rfl rfl (op_load_m (cs' := [_, _, _, _, _, _, _, _, _, _, _]) (i := 0) rfl ta_60 rfl rfl rfl rfl ?_)
    refine AOps.st 14 rfl rfl rfl (op_yield (xs := [.tmp 13])  [.loc b5 _] rfl rfl rfl rfl (hy i _ M hx hJ) (Les.refl _) (fun v14 M14 h14 => ?_))
    obtain ⟨c14, rfl, hT, hF⟩ := yres h14
    refine AOps.st 15 rfl rfl rfl (op_notc rfl rfl ?_); intro c15 h15
    try replace h15 := nott h15 h14
    refine AOps.nil ?_
    refine go_code ?_
    rcases bool_split h15 with ⟨rfl, g15⟩ | ⟨rfl, g15⟩
    · refine c_cond_f rfl ?_
      refine c_skip ?_
      refine go_blk ?_
      refine go_code ?_
      refine c_region ?_
      refine AOps.st 16 rfl rfl rfl (op_add rfl rfl rfl (IntWalk.i64_in _ (by omega)) ?_)
      refine AOps.st 8 rfl rfl rfl (op_move rfl rfl ?_)
      refine AOps.nil ?_
      refine go_lp ?_
      exact ⟨(i + 1, M14), ⟨by omega, hT (by simpa using g15)⟩, by simp; omega, (by repeat' (first | exact SLe.nil _ | refine SLe.cons rfl ?_ ?_ | exact Le.refl _ | exact Le.own _ _ _ | exact Le.nil _)), (MLe.drop _ (MLe.refl _))⟩
    · refine c_cond_t rfl ?_
      refine c_seq ?_
      refine c_region ?_
      refine AOps.st 3 rfl rfl rfl (op_assign rfl rfl ?_)
      refine AOps.nil ?_
      refine go_code ?_
      refine c_ret ?_
      exact out_tmp rfl rfl (Le.refl _) (MLe.drop _ (MLe.refl _)) (.inr ⟨rfl, _, by omega, hF g15⟩)
theorem Ex.parts_a {k n p : Int} {s : ByteArray} {t : Ty} {ks : List Ex} {al : List Al} {bs : List Bi} (hk : k ≠ 7) {i : Nat} {x : Ex} (h : ks[i]? = some x) : (Ex.mk k s n t ks al bs p).parts[i]? = some x := by
  have hi : i < ks.length := (List.getElem?_eq_some_iff.1 h).1
  simp only [Ex.parts, if_neg hk]
  rw [List.append_assoc, List.append_assoc, List.getElem?_append_left hi]; exact h
theorem Ex.parts_len (k n p : Int) (s : ByteArray) (t : Ty) (ks : List Ex) (al : List Al) (bs : List Bi) : (Ex.mk k s n t ks al bs p).parts.length = ks.length + bs.length + al.length := by
  by_cases hk : k = 7
  · simp [Ex.parts, hk]; omega
  · simp [Ex.parts, hk]; omega
theorem Ex.parts_b {k n p : Int} {s : ByteArray} {t : Ty} {ks : List Ex} {al : List Al} {bs : List Bi} {i : Nat} {b : Bi} (h : bs[i]? = some b) : (Ex.mk k s n t ks al bs p).parts[(if k = 7 then 0 else ks.length) + i]? = some b.e := by
  have hi : i < bs.length := (List.getElem?_eq_some_iff.1 h).1
  by_cases hk : k = 7
  · simp only [Ex.parts, if_pos hk, List.nil_append, Nat.zero_add]
    rw [List.append_assoc, List.getElem?_append_left (by simpa using hi)]; simp [h]
  · simp only [Ex.parts, if_neg hk]
    rw [List.append_assoc, List.append_assoc, List.getElem?_append_right (by omega), List.getElem?_append_left (by simp; omega)]
    simp [h]
theorem Ex.parts_c {k n p : Int} {s : ByteArray} {t : Ty} {ks : List Ex} {al : List Al} {bs : List Bi} (hk : k = 7) {i : Nat} {x : Ex} (h : ks[i]? = some x) : (Ex.mk k s n t ks al bs p).parts[bs.length + i]? = some x := by
  have hi : i < ks.length := (List.getElem?_eq_some_iff.1 h).1
  simp only [Ex.parts, if_pos hk, List.nil_append]
  rw [List.append_assoc, List.getElem?_append_right (by simp), List.getElem?_append_left (by simp; omega)]
  simp [h]
theorem Ex.parts_d {k n p : Int} {s : ByteArray} {t : Ty} {ks : List Ex} {al : List Al} {bs : List Bi} {i : Nat} {a : Al} (h : al[i]? = some a) : (Ex.mk k s n t ks al bs p).parts[ks.length + bs.length + i]? = some a.e := by
  by_cases hk : k = 7
  · simp only [Ex.parts, if_pos hk, List.nil_append]
    rw [List.getElem?_append_right (by simp; omega)]
    simp only [List.length_append, List.length_map]
    rw [show ks.length + bs.length + i - (bs.length + ks.length) = i from by omega]
    simp [h]
  · simp only [Ex.parts, if_neg hk]
    rw [List.getElem?_append_right (by simp)]
    simp [h]
set_option maxHeartbeats 4000000 in
set_option maxRecDepth 100000 in
theorem parts_it (e : Ex) : Iter Try.prog 115 [] [.cptr e.cells] (e.parts.map arg1) := by
  intro l J Jx hy M0 h0
  have hy' : ∀ i x M, e.parts[i]? = some x → J i M → YCall Try.prog l (arg1 x) M (fun v M' => (v = .val (.bool true) ∧ J (i + 1) M') ∨ (v = .val (.bool false) ∧ Jx (i + 1) M')) := fun i x M h hJ => hy i _ M (by simp [h]) hJ
  obtain ⟨k, s, n, ⟨tk, ts, tn, tks⟩, ks, al, bs, p⟩ := e
  have hlen := Ex.parts_len k n p s ⟨tk, ts, tn, tks⟩ ks al bs
  rw [List.length_map, hlen]
  have hA := fun (hk : k ≠ 7) => all_y l J Jx ks 0 (fun i x M h hJ => by rw [Nat.zero_add] at hJ ⊢; exact hy' i x M (Ex.parts_a hk h) hJ)
  obtain ⟨k1, hk1⟩ : ∃ k1, k1 = if k = 7 then 0 else ks.length := ⟨_, rfl⟩
  have hB := fun i b M h hJ => hy' (k1 + i) (Bi.e b) M (by rw [hk1]; exact Ex.parts_b h) hJ
  have hC := fun (hk : k = 7) => all_y l J Jx ks (k1 + bs.length) (fun i x M h hJ => hy' _ x M (by rw [hk1, if_pos hk, Nat.zero_add]; exact Ex.parts_c hk h) hJ)
  have hD := fun i a M h hJ => hy' (ks.length + bs.length + i) (Al.e a) M (Ex.parts_d h) hJ
  clear hy hy'
  have hl1 := Al.cellss_len al
  have hl2 := Bi.cellss_len bs
  have hk1' : k = 7 ∧ k1 = 0 ∨ k ≠ 7 ∧ k1 = ks.length := by
    by_cases q : k = 7
    · exact .inl ⟨q, by rw [hk1, if_pos q]⟩
    · exact .inr ⟨q, by rw [hk1, if_neg q]⟩
  clear hk1
  refine ACall.enter Try.func115 rfl (by kernel_rfl) rfl (Nat.le_of_ble_eq_true rfl) ?_
  refine c_start ?_
  refine c_lenp (t := 1) (j := 8) rfl rfl (.seq _ _) (fun hmax => ?_)
  refine c_lenp (t := 1) (j := 9) rfl rfl (.seq _ _) (fun hmax2 => ?_)
  refine c_seq ?_
  refine c_region ?_
  refine AOps.st 2 rfl rfl rfl (op_boxc (cs' := [_]) rfl rfl rfl rfl ?_)
  refine AOps.nil ?_
  refine go_code ?_
  refine c_seq ?_
  refine c_region ?_
  refine AOps.st 8 rfl rfl rfl (op_makeFunc (fs := []) (cs := [.tmp 2]) rfl rfl rfl ?_)
  refine AOps.st 3 rfl rfl rfl (op_assign rfl rfl ?_)
  refine AOps.nil ?_
  refine go_code ?_
  refine c_seq ?_
  refine c_seq ?_
  refine c_region ?_
  first | (refine AOps.st 9 rfl rfl rfl (op_fieldAddr_m rfl tf_60_0 rfl ?_)) | (refine AOps.st 9 rfl rfl rfl (op_fieldAddr_c rfl tf_60_0 rfl rfl ?_))
  first | (refine AOps.st 10 rfl rfl rfl (op_load_m1 (i := 0) rfl ta_3 rfl rfl rfl ?_)) | (refine AOps.st 10 rfl rfl rfl (op_load_m1 (i := 1) rfl ta_3 rfl rfl rfl ?_)) | (refine AOps.st 10 rfl rfl rfl (op_load_m1 (i := 2) rfl ta_3 rfl rfl rfl ?_)) | (refine AOps.st 10 rfl rfl rfl (op_load_m1 (i := 3) rfl ta_3 rfl rfl rfl ?_)) | (refine AOps.st 10 rfl rfl rfl (op_load_m1 (i := 4) rfl ta_3 rfl rfl rfl ?_)) | (refine AOps.st 10 rfl rfl rfl (op_load_m1 (i := 5) rfl ta_3 rfl rfl rfl ?_)) | (refine AOps.st 10 rfl rfl rfl (op_load_c1 rfl ta_3 rfl rfl ?_))
  refine AOps.st 11 rfl rfl rfl (op_neq rfl rfl rfl ?_); intro c11 h11
  refine AOps.st 12 rfl rfl rfl (op_move rfl rfl ?_)
  rcases bool_split h11 with ⟨rfl, g11⟩ | ⟨rfl, g11⟩
  · skip
    refine AOps.gf 13 rfl rfl rfl rfl rfl ?_
    refine AOps.gf 14 rfl rfl rfl rfl rfl ?_
    refine AOps.gf 15 rfl rfl rfl rfl rfl ?_
    refine AOps.gf 16 rfl rfl rfl rfl rfl ?_
    refine AOps.gf 17 rfl rfl rfl rfl rfl ?_
    refine AOps.st 18 rfl rfl rfl (op_pick rfl rfl rfl ?_)
    refine AOps.nil ?_
    refine go_code ?_
    refine c_cond_f rfl ?_
    refine c_skip ?_
    refine go_code ?_
    refine c_seq ?_
    refine c_seq ?_
    refine c_region ?_
    first | (refine AOps.st 19 rfl rfl rfl (op_fieldAddr_m rfl tf_60_6 rfl ?_)) | (refine AOps.st 19 rfl rfl rfl (op_fieldAddr_c rfl tf_60_6 rfl rfl ?_))
    first | (refine AOps.st 20 rfl rfl rfl (op_load_m1 (i := 0) rfl ta_58 rfl rfl rfl ?_)) | (refine AOps.st 20 rfl rfl rfl (op_load_m1 (i := 1) rfl ta_58 rfl rfl rfl ?_)) | (refine AOps.st 20 rfl rfl rfl (op_load_m1 (i := 2) rfl ta_58 rfl rfl rfl ?_)) | (refine AOps.st 20 rfl rfl rfl (op_load_m1 (i := 3) rfl ta_58 rfl rfl rfl ?_)) | (refine AOps.st 20 rfl rfl rfl (op_load_m1 (i := 4) rfl ta_58 rfl rfl rfl ?_)) | (refine AOps.st 20 rfl rfl rfl (op_load_m1 (i := 5) rfl ta_58 rfl rfl rfl ?_)) | (refine AOps.st 20 rfl rfl rfl (op_load_c1 rfl ta_58 rfl rfl ?_))
    refine AOps.st 21 rfl rfl rfl (op_len rfl tu_58 rfl (.seq _ _) (fun n21 => ?_))
    refine AOps.st 22 rfl rfl rfl (op_move rfl rfl ?_)
    refine AOps.nil ?_
    refine go_code ?_
    refine c_block ?_
    refine c_loop (σ := Nat × Mem) (fun zz => match zz with | (i, M) => [(1, .cptr (Ex.mk k s n ⟨tk, ts, tn, tks⟩ ks al bs p).cells), (2, .cptr [yv l]), (3, .clo (.func 116) [] [.cptr [yv l]]), (20, .seq 13 (Bi.cellss bs)), (21, .val (.int .i64 (Bi.cellss bs).length)), (22, .val (.int .i64 i))]) (fun zz => match zz with | (i, M) => M) (fun zz => match zz with | (i, M) => i ≤ bs.length ∧ J (k1 + i) M) (fun zz => match zz with | (i, M) => bs.length - i) ((0, M0)) ?_ ?_ ?_ ?_
    · refine ⟨by omega, ?_⟩
      first | (rw [show k1 + 0 = 0 + ks.length from by omega]; exact hT (by simpa using g17)) | (rw [show k1 + 0 = 0 from by omega]; exact h0)
    · exact (by repeat' (first | exact SLe.nil _ | refine SLe.cons rfl ?_ ?_ | exact Le.refl _ | exact Le.own _ _ _ | exact Le.nil _))
    · exact (by first | exact MLe.none _ | exact MLe.refl _ | (repeat' (first | exact MLe.nil | exact MLe.refl _ | refine MLe.cons _ ?_ | refine MLe.drop _ ?_)))
    rintro ⟨i, M⟩ hI
    try dsimp only at hI ⊢
    obtain ⟨hi, hJ⟩ := hI
    refine c_seq ?_
    refine c_region ?_
    refine AOps.st 23 rfl rfl rfl (op_lss rfl rfl rfl ?_); intro c23 h23
    refine AOps.nil ?_
    refine go_code ?_
    refine c_seq ?_
    rcases bool_split h23 with ⟨rfl, g23⟩ | ⟨rfl, g23⟩
    · refine c_cond_f rfl ?_
      refine c_exit ?_
      refine x_code ?_
      refine x_lp ?_
      refine x_here ?_
      refine go_code ?_
      refine c_seq ?_
      refine c_seq ?_
      have hJ2 : J (k1 + bs.length) M := by rwa [show i = bs.length from by omega] at hJ
      refine c_region ?_
      first | (refine AOps.st 32 rfl rfl rfl (op_fieldAddr_m rfl tf_60_0 rfl ?_)) | (refine AOps.st 32 rfl rfl rfl (op_fieldAddr_c rfl tf_60_0 rfl rfl ?_))
      first | (refine AOps.st 33 rfl rfl rfl (op_load_m1 (i := 0) rfl ta_3 rfl rfl rfl ?_)) | (refine AOps.st 33 rfl rfl rfl (op_load_m1 (i := 1) rfl ta_3 rfl rfl rfl ?_)) | (refine AOps.st 33 rfl rfl rfl (op_load_m1 (i := 2) rfl ta_3 rfl rfl rfl ?_)) | (refine AOps.st 33 rfl rfl rfl (op_load_m1 (i := 3) rfl ta_3 rfl rfl rfl ?_)) | (refine AOps.st 33 rfl rfl rfl (op_load_m1 (i := 4) rfl ta_3 rfl rfl rfl ?_)) | (refine AOps.st 33 rfl rfl rfl (op_load_m1 (i := 5) rfl ta_3 rfl rfl rfl ?_)) | (refine AOps.st 33 rfl rfl rfl (op_load_c1 rfl ta_3 rfl rfl ?_))
      refine AOps.st 34 rfl rfl rfl (op_eql rfl rfl rfl ?_); intro c34 h34
      refine AOps.st 35 rfl rfl rfl (op_move rfl rfl ?_)
      rcases bool_split h34 with ⟨rfl, g34⟩ | ⟨rfl, g34⟩
      · skip
        refine AOps.gf 36 rfl rfl rfl rfl rfl ?_
        refine AOps.gf 37 rfl rfl rfl rfl rfl ?_
        refine AOps.gf 38 rfl rfl rfl rfl rfl ?_
        refine AOps.gf 39 rfl rfl rfl rfl rfl ?_
        refine AOps.gf 40 rfl rfl rfl rfl rfl ?_
        refine AOps.st 41 rfl rfl rfl (op_pick rfl rfl rfl ?_)
        refine AOps.nil ?_
        refine go_code ?_
        refine c_cond_f rfl ?_
        refine c_skip ?_
        refine go_code ?_
        refine c_seq ?_
        refine c_region ?_
        first | (refine AOps.st 42 rfl rfl rfl (op_fieldAddr_m rfl tf_60_5 rfl ?_)) | (refine AOps.st 42 rfl rfl rfl (op_fieldAddr_c rfl tf_60_5 rfl rfl ?_))
        first | (refine AOps.st 43 rfl rfl rfl (op_load_m1 (i := 0) rfl ta_57 rfl rfl rfl ?_)) | (refine AOps.st 43 rfl rfl rfl (op_load_m1 (i := 1) rfl ta_57 rfl rfl rfl ?_)) | (refine AOps.st 43 rfl rfl rfl (op_load_m1 (i := 2) rfl ta_57 rfl rfl rfl ?_)) | (refine AOps.st 43 rfl rfl rfl (op_load_m1 (i := 3) rfl ta_57 rfl rfl rfl ?_)) | (refine AOps.st 43 rfl rfl rfl (op_load_m1 (i := 4) rfl ta_57 rfl rfl rfl ?_)) | (refine AOps.st 43 rfl rfl rfl (op_load_m1 (i := 5) rfl ta_57 rfl rfl rfl ?_)) | (refine AOps.st 43 rfl rfl rfl (op_load_c1 rfl ta_57 rfl rfl ?_))
        refine AOps.st 44 rfl rfl rfl (op_len rfl tu_57 rfl (.seq _ _) (fun n44 => ?_))
        refine AOps.st 45 rfl rfl rfl (op_move rfl rfl ?_)
        refine AOps.nil ?_
        refine go_code ?_
        refine c_block ?_
        refine c_loop (σ := Nat × Mem) (fun zz => match zz with | (j, M) => [(2, .cptr [yv l]), (43, .seq 16 (Al.cellss al)), (44, .val (.int .i64 (Al.cellss al).length)), (45, .val (.int .i64 j))]) (fun zz => match zz with | (j, M) => M) (fun zz => match zz with | (j, M) => j ≤ al.length ∧ J (ks.length + bs.length + j) M) (fun zz => match zz with | (j, M) => al.length - j) ((0, M)) ?_ ?_ ?_ ?_
        · refine ⟨by omega, ?_⟩
          exfalso; omega
        · exact (by repeat' (first | exact SLe.nil _ | refine SLe.cons rfl ?_ ?_ | exact Le.refl _ | exact Le.own _ _ _ | exact Le.nil _))
        · exact (by first | exact MLe.none _ | exact MLe.refl _ | (repeat' (first | exact MLe.nil | exact MLe.refl _ | refine MLe.cons _ ?_ | refine MLe.drop _ ?_)))
        rintro ⟨j, M⟩ hI
        try dsimp only at hI ⊢
        obtain ⟨hj, hJ3⟩ := hI
        refine c_seq ?_
        refine c_region ?_
        refine AOps.st 46 rfl rfl rfl (op_lss rfl rfl rfl ?_); intro c46 h46
        refine AOps.nil ?_
        refine go_code ?_
        refine c_seq ?_
        rcases bool_split h46 with ⟨rfl, g46⟩ | ⟨rfl, g46⟩
        · refine c_cond_f rfl ?_
          refine c_exit ?_
          refine x_code ?_
          refine x_lp ?_
          refine x_here ?_
          refine go_end ?_
          refine out_none rfl (MLe.refl _) (.inl ?_)
          rwa [show j = al.length from by omega] at hJ3
        · refine c_cond_t rfl ?_
          refine c_skip ?_
          refine go_code ?_
          refine c_seq ?_
          refine c_block ?_
          refine c_seq ?_
          obtain ⟨⟨⟨zk, zs, zn, zks, zp⟩, ⟨yk, yn, yu, ⟨ytk, yts, ytn, ytks⟩, yks, yal, ybs, yp⟩⟩, hx⟩ := get_some (l := al) (i := j) (by omega)
          have hcx := Al.cellss_get hx
          refine c_region ?_
          refine AOps.st 47 rfl rfl rfl (op_index rfl te_57 rfl (.seq _ _) rfl rfl (by assumption) ?_)
          first | (refine AOps.st 48 rfl rfl rfl (op_load_m (cs' := [_, _, _, _, _, _, _, _, _, _, _, _, _, _, _, _]) (i := 0) rfl ta_70 rfl rfl rfl rfl ?_)) | (refine AOps.st 48 rfl rfl rfl (op_load_m (cs' := [_, _, _, _, _, _, _, _, _, _, _, _, _, _, _, _]) (i := 1) rfl ta_70 rfl rfl rfl rfl ?_)) | (refine AOps.st 48 rfl rfl rfl (op_load_m (cs' := [_, _, _, _, _, _, _, _, _, _, _, _, _, _, _, _]) (i := 2) rfl ta_70 rfl rfl rfl rfl ?_)) | (refine AOps.st 48 rfl rfl rfl (op_load_m (cs' := [_, _, _, _, _, _, _, _, _, _, _, _, _, _, _, _]) (i := 3) rfl ta_70 rfl rfl rfl rfl ?_)) | (refine AOps.st 48 rfl rfl rfl (op_load_m (cs' := [_, _, _, _, _, _, _, _, _, _, _, _, _, _, _, _]) (i := 4) rfl ta_70 rfl rfl rfl rfl ?_)) | (refine AOps.st 48 rfl rfl rfl (op_load_m (cs' := [_, _, _, _, _, _, _, _, _, _, _, _, _, _, _, _]) (i := 5) rfl ta_70 rfl rfl rfl rfl ?_)) | (refine AOps.st 48 rfl rfl rfl (op_load_c (cs' := [_, _, _, _, _, _, _, _, _, _, _, _, _, _, _, _]) rfl ta_70 rfl rfl rfl ?_))
          refine AOps.st 7 rfl rfl rfl (op_alloce (cs' := [_, _, _, _, _, _, _, _, _, _, _, _, _, _, _, _]) rfl tz_70 rfl rfl ?_); intro b7
          refine AOps.st0 rfl rfl (op_store (cs' := [_, _, _, _, _, _, _, _, _, _, _, _, _, _, _, _]) (i := 0) rfl ts_70 rfl rfl rfl rfl rfl (Nat.le_of_ble_eq_true rfl) rfl ?_)
          refine AOps.nil ?_
          refine go_code ?_
          refine c_seq ?_
          refine c_region ?_
          refine AOps.st 49 rfl rfl rfl (op_load_c1 rfl ta_63 rfl rfl ?_)
          refine AOps.st 50 rfl rfl rfl (op_fieldAddr_m rfl tf_70_1 rfl ?_)
          refine AOps.st 51 rfl rfl rfl (op_load_m (cs' := [_, _, _, _, _, _, _, _, _, _, _]) (i := 0) rfl ta_60 rfl rfl rfl rfl ?_)
          refine AOps.st 52 rfl rfl rfl (op_yield (xs := [.tmp 51])  [.loc b7 _] rfl rfl rfl rfl (hD j _ M hx hJ3) (Les.refl _) (fun v52 M52 h52 => ?_))
          obtain ⟨c52, rfl, hT4, hF4⟩ := yres h52
          refine AOps.st 53 rfl rfl rfl (op_notc rfl rfl ?_); intro c53 h53
          try replace h53 := nott h53 h52
          refine AOps.nil ?_
          refine go_code ?_
          rcases bool_split h53 with ⟨rfl, g53⟩ | ⟨rfl, g53⟩
          · refine c_cond_f rfl ?_
            refine c_skip ?_
            refine go_blk ?_
            refine go_code ?_
            refine c_region ?_
            refine AOps.st 54 rfl rfl rfl (op_add rfl rfl rfl (IntWalk.i64_in _ (by omega)) ?_)
            refine AOps.st 45 rfl rfl rfl (op_move rfl rfl ?_)
            refine AOps.nil ?_
            refine go_lp ?_
            exact ⟨(j + 1, M52), ⟨by omega, hT4 (by simpa using g53)⟩, by simp; omega, (by repeat' (first | exact SLe.nil _ | refine SLe.cons rfl ?_ ?_ | exact Le.refl _ | exact Le.own _ _ _ | exact Le.nil _)), (MLe.drop _ (MLe.refl _))⟩
          · refine c_cond_t rfl ?_
            refine c_ret ?_
            exact out_none' rfl (MLe.drop _ (MLe.refl _)) (.inr ⟨_, by omega, hF4 g53⟩)
      · skip
        refine AOps.gt 36 rfl rfl rfl rfl rfl (op_move rfl rfl ?_)
        first | (refine AOps.gt 37 rfl rfl rfl rfl rfl (op_fieldAddr_m rfl tf_60_4 rfl ?_)) | (refine AOps.gt 37 rfl rfl rfl rfl rfl (op_fieldAddr_c rfl tf_60_4 rfl rfl ?_))
        first | (refine AOps.gt 38 rfl rfl rfl rfl rfl (op_load_m1 (i := 0) rfl ta_56 rfl rfl rfl ?_)) | (refine AOps.gt 38 rfl rfl rfl rfl rfl (op_load_m1 (i := 1) rfl ta_56 rfl rfl rfl ?_)) | (refine AOps.gt 38 rfl rfl rfl rfl rfl (op_load_m1 (i := 2) rfl ta_56 rfl rfl rfl ?_)) | (refine AOps.gt 38 rfl rfl rfl rfl rfl (op_load_m1 (i := 3) rfl ta_56 rfl rfl rfl ?_)) | (refine AOps.gt 38 rfl rfl rfl rfl rfl (op_load_m1 (i := 4) rfl ta_56 rfl rfl rfl ?_)) | (refine AOps.gt 38 rfl rfl rfl rfl rfl (op_load_m1 (i := 5) rfl ta_56 rfl rfl rfl ?_)) | (refine AOps.gt 38 rfl rfl rfl rfl rfl (op_load_c1 rfl ta_56 rfl rfl ?_))
        refine AOps.gt 39 rfl rfl rfl rfl rfl (op_callvm (xs := [.tmp 38])  [] rfl rfl rfl rfl (hC g34 M hJ2) (Les.refl _) (fun v39 M h39 => ?_))
        obtain ⟨c39, rfl, hT3, hF3⟩ := yres h39
        refine AOps.gt 40 rfl rfl rfl rfl rfl (op_notc rfl rfl ?_); intro c40 h40
        try replace h40 := nott h40 h39
        refine AOps.st 41 rfl rfl rfl (op_pick rfl rfl rfl ?_)
        refine AOps.nil ?_
        refine go_code ?_
        rcases bool_split h40 with ⟨rfl, g40⟩ | ⟨rfl, g40⟩
        · refine c_cond_f rfl ?_
          refine c_skip ?_
          refine go_code ?_
          refine c_seq ?_
          refine c_region ?_
          first | (refine AOps.st 42 rfl rfl rfl (op_fieldAddr_m rfl tf_60_5 rfl ?_)) | (refine AOps.st 42 rfl rfl rfl (op_fieldAddr_c rfl tf_60_5 rfl rfl ?_))
          first | (refine AOps.st 43 rfl rfl rfl (op_load_m1 (i := 0) rfl ta_57 rfl rfl rfl ?_)) | (refine AOps.st 43 rfl rfl rfl (op_load_m1 (i := 1) rfl ta_57 rfl rfl rfl ?_)) | (refine AOps.st 43 rfl rfl rfl (op_load_m1 (i := 2) rfl ta_57 rfl rfl rfl ?_)) | (refine AOps.st 43 rfl rfl rfl (op_load_m1 (i := 3) rfl ta_57 rfl rfl rfl ?_)) | (refine AOps.st 43 rfl rfl rfl (op_load_m1 (i := 4) rfl ta_57 rfl rfl rfl ?_)) | (refine AOps.st 43 rfl rfl rfl (op_load_m1 (i := 5) rfl ta_57 rfl rfl rfl ?_)) | (refine AOps.st 43 rfl rfl rfl (op_load_c1 rfl ta_57 rfl rfl ?_))
          refine AOps.st 44 rfl rfl rfl (op_len rfl tu_57 rfl (.seq _ _) (fun n44 => ?_))
          refine AOps.st 45 rfl rfl rfl (op_move rfl rfl ?_)
          refine AOps.nil ?_
          refine go_code ?_
          refine c_block ?_
          refine c_loop (σ := Nat × Mem) (fun zz => match zz with | (j, M) => [(2, .cptr [yv l]), (43, .seq 16 (Al.cellss al)), (44, .val (.int .i64 (Al.cellss al).length)), (45, .val (.int .i64 j))]) (fun zz => match zz with | (j, M) => M) (fun zz => match zz with | (j, M) => j ≤ al.length ∧ J (ks.length + bs.length + j) M) (fun zz => match zz with | (j, M) => al.length - j) ((0, M)) ?_ ?_ ?_ ?_
          · refine ⟨by omega, ?_⟩
            first | (exfalso; omega) | (rw [show ks.length + bs.length + 0 = k1 + bs.length + ks.length from by omega]; exact hT3 (by simpa using g40))
          · exact (by repeat' (first | exact SLe.nil _ | refine SLe.cons rfl ?_ ?_ | exact Le.refl _ | exact Le.own _ _ _ | exact Le.nil _))
          · exact (by first | exact MLe.none _ | exact MLe.refl _ | (repeat' (first | exact MLe.nil | exact MLe.refl _ | refine MLe.cons _ ?_ | refine MLe.drop _ ?_)))
          rintro ⟨j, M⟩ hI
          try dsimp only at hI ⊢
          obtain ⟨hj, hJ3⟩ := hI
          refine c_seq ?_
          refine c_region ?_
          refine AOps.st 46 rfl rfl rfl (op_lss rfl rfl rfl ?_); intro c46 h46
          refine AOps.nil ?_
          refine go_code ?_
          refine c_seq ?_
          rcases bool_split h46 with ⟨rfl, g46⟩ | ⟨rfl, g46⟩
          · refine c_cond_f rfl ?_
            refine c_exit ?_
            refine x_code ?_
            refine x_lp ?_
            refine x_here ?_
            refine go_end ?_
            refine out_none rfl (MLe.refl _) (.inl ?_)
            rwa [show j = al.length from by omega] at hJ3
          · refine c_cond_t rfl ?_
            refine c_skip ?_
            refine go_code ?_
            refine c_seq ?_
            refine c_block ?_
            refine c_seq ?_
            obtain ⟨⟨⟨zk, zs, zn, zks, zp⟩, ⟨yk, yn, yu, ⟨ytk, yts, ytn, ytks⟩, yks, yal, ybs, yp⟩⟩, hx⟩ := get_some (l := al) (i := j) (by omega)
            have hcx := Al.cellss_get hx
            refine c_region ?_
            refine AOps.st 47 rfl rfl rfl (op_index rfl te_57 rfl (.seq _ _) rfl rfl (by assumption) ?_)
            first | (refine AOps.st 48 rfl rfl rfl (op_load_m (cs' := [_, _, _, _, _, _, _, _, _, _, _, _, _, _, _, _]) (i := 0) rfl ta_70 rfl rfl rfl rfl ?_)) | (refine AOps.st 48 rfl rfl rfl (op_load_m (cs' := [_, _, _, _, _, _, _, _, _, _, _, _, _, _, _, _]) (i := 1) rfl ta_70 rfl rfl rfl rfl ?_)) | (refine AOps.st 48 rfl rfl rfl (op_load_m (cs' := [_, _, _, _, _, _, _, _, _, _, _, _, _, _, _, _]) (i := 2) rfl ta_70 rfl rfl rfl rfl ?_)) | (refine AOps.st 48 rfl rfl rfl (op_load_m (cs' := [_, _, _, _, _, _, _, _, _, _, _, _, _, _, _, _]) (i := 3) rfl ta_70 rfl rfl rfl rfl ?_)) | (refine AOps.st 48 rfl rfl rfl (op_load_m (cs' := [_, _, _, _, _, _, _, _, _, _, _, _, _, _, _, _]) (i := 4) rfl ta_70 rfl rfl rfl rfl ?_)) | (refine AOps.st 48 rfl rfl rfl (op_load_m (cs' := [_, _, _, _, _, _, _, _, _, _, _, _, _, _, _, _]) (i := 5) rfl ta_70 rfl rfl rfl rfl ?_)) | (refine AOps.st 48 rfl rfl rfl (op_load_c (cs' := [_, _, _, _, _, _, _, _, _, _, _, _, _, _, _, _]) rfl ta_70 rfl rfl rfl ?_))
            refine AOps.st 7 rfl rfl rfl (op_alloce (cs' := [_, _, _, _, _, _, _, _, _, _, _, _, _, _, _, _]) rfl tz_70 rfl rfl ?_); intro b7
            refine AOps.st0 rfl rfl (op_store (cs' := [_, _, _, _, _, _, _, _, _, _, _, _, _, _, _, _]) (i := 0) rfl ts_70 rfl rfl rfl rfl rfl (Nat.le_of_ble_eq_true rfl) rfl ?_)
            refine AOps.nil ?_
            refine go_code ?_
            refine c_seq ?_
            refine c_region ?_
            refine AOps.st 49 rfl rfl rfl (op_load_c1 rfl ta_63 rfl rfl ?_)
            refine AOps.st 50 rfl rfl rfl (op_fieldAddr_m rfl tf_70_1 rfl ?_)
            refine AOps.st 51 rfl rfl rfl (op_load_m (cs' := [_, _, _, _, _, _, _, _, _, _, _]) (i := 0) rfl ta_60 rfl rfl rfl rfl ?_)
            refine AOps.st 52 rfl rfl rfl (op_yield (xs := [.tmp 51])  [.loc b7 _] rfl rfl rfl rfl (hD j _ M hx hJ3) (Les.refl _) (fun v52 M52 h52 => ?_))
            obtain ⟨c52, rfl, hT4, hF4⟩ := yres h52
            refine AOps.st 53 rfl rfl rfl (op_notc rfl rfl ?_); intro c53 h53
            try replace h53 := nott h53 h52
            refine AOps.nil ?_
            refine go_code ?_
            rcases bool_split h53 with ⟨rfl, g53⟩ | ⟨rfl, g53⟩
            · refine c_cond_f rfl ?_
              refine c_skip ?_
              refine go_blk ?_
              refine go_code ?_
              refine c_region ?_
              refine AOps.st 54 rfl rfl rfl (op_add rfl rfl rfl (IntWalk.i64_in _ (by omega)) ?_)
              refine AOps.st 45 rfl rfl rfl (op_move rfl rfl ?_)
              refine AOps.nil ?_
              refine go_lp ?_
              exact ⟨(j + 1, M52), ⟨by omega, hT4 (by simpa using g53)⟩, by simp; omega, (by repeat' (first | exact SLe.nil _ | refine SLe.cons rfl ?_ ?_ | exact Le.refl _ | exact Le.own _ _ _ | exact Le.nil _)), (MLe.drop _ (MLe.refl _))⟩
            · refine c_cond_t rfl ?_
              refine c_ret ?_
              exact out_none' rfl (MLe.drop _ (MLe.refl _)) (.inr ⟨_, by omega, hF4 g53⟩)
        · refine c_cond_t rfl ?_
          refine c_ret ?_
          obtain ⟨kk, hkk, hJx⟩ := hF3 g40
          exact out_none' rfl (MLe.refl _) (.inr ⟨kk, by omega, hJx⟩)
    · refine c_cond_t rfl ?_
      refine c_skip ?_
      refine go_code ?_
      refine c_seq ?_
      refine c_block ?_
      refine c_seq ?_
      obtain ⟨⟨ys, ⟨yk, yn, yu, ⟨ytk, yts, ytn, ytks⟩, yks, yal, ybs, yp⟩, yq⟩, hx⟩ := get_some (l := bs) (i := i) (by omega)
      have hcx := Bi.cellss_get hx
      refine c_region ?_
      refine AOps.st 24 rfl rfl rfl (op_index rfl te_58 rfl (.seq _ _) rfl rfl (by assumption) ?_)
      first | (refine AOps.st 25 rfl rfl rfl (op_load_m (cs' := [_, _, _, _, _, _, _, _, _, _, _, _, _]) (i := 0) rfl ta_74 rfl rfl rfl rfl ?_)) | (refine AOps.st 25 rfl rfl rfl (op_load_m (cs' := [_, _, _, _, _, _, _, _, _, _, _, _, _]) (i := 1) rfl ta_74 rfl rfl rfl rfl ?_)) | (refine AOps.st 25 rfl rfl rfl (op_load_m (cs' := [_, _, _, _, _, _, _, _, _, _, _, _, _]) (i := 2) rfl ta_74 rfl rfl rfl rfl ?_)) | (refine AOps.st 25 rfl rfl rfl (op_load_m (cs' := [_, _, _, _, _, _, _, _, _, _, _, _, _]) (i := 3) rfl ta_74 rfl rfl rfl rfl ?_)) | (refine AOps.st 25 rfl rfl rfl (op_load_m (cs' := [_, _, _, _, _, _, _, _, _, _, _, _, _]) (i := 4) rfl ta_74 rfl rfl rfl rfl ?_)) | (refine AOps.st 25 rfl rfl rfl (op_load_m (cs' := [_, _, _, _, _, _, _, _, _, _, _, _, _]) (i := 5) rfl ta_74 rfl rfl rfl rfl ?_)) | (refine AOps.st 25 rfl rfl rfl (op_load_c (cs' := [_, _, _, _, _, _, _, _, _, _, _, _, _]) rfl ta_74 rfl rfl rfl ?_))
      refine AOps.st 5 rfl rfl rfl (op_alloce (cs' := [_, _, _, _, _, _, _, _, _, _, _, _, _]) rfl tz_74 rfl rfl ?_); intro b5
      refine AOps.st0 rfl rfl (op_store (cs' := [_, _, _, _, _, _, _, _, _, _, _, _, _]) (i := 0) rfl ts_74 rfl rfl rfl rfl rfl (Nat.le_of_ble_eq_true rfl) rfl ?_)
      refine AOps.nil ?_
      refine go_code ?_
      refine c_seq ?_
      refine c_region ?_
      refine AOps.st 26 rfl rfl rfl (op_load_c1 rfl ta_63 rfl rfl ?_)
      refine AOps.st 27 rfl rfl rfl (op_fieldAddr_m rfl tf_74_1 rfl ?_)
      refine AOps.st 28 rfl rfl rfl (op_load_m (cs' := [_, _, _, _, _, _, _, _, _, _, _]) (i := 0) rfl ta_60 rfl rfl rfl rfl ?_)
      refine AOps.st 29 rfl rfl rfl (op_yield (xs := [.tmp 28])  [.loc b5 _] rfl rfl rfl rfl (hB i _ M hx hJ) (Les.refl _) (fun v29 M29 h29 => ?_))
      obtain ⟨c29, rfl, hT2, hF2⟩ := yres h29
      refine AOps.st 30 rfl rfl rfl (op_notc rfl rfl ?_); intro c30 h30
      try replace h30 := nott h30 h29
      refine AOps.nil ?_
      refine go_code ?_
      rcases bool_split h30 with ⟨rfl, g30⟩ | ⟨rfl, g30⟩
      · refine c_cond_f rfl ?_
        refine c_skip ?_
        refine go_blk ?_
        refine go_code ?_
        refine c_region ?_
        refine AOps.st 31 rfl rfl rfl (op_add rfl rfl rfl (IntWalk.i64_in _ (by omega)) ?_)
        refine AOps.st 22 rfl rfl rfl (op_move rfl rfl ?_)
        refine AOps.nil ?_
        refine go_lp ?_
        exact ⟨(i + 1, M29), ⟨by omega, hT2 (by simpa using g30)⟩, by simp; omega, (by repeat' (first | exact SLe.nil _ | refine SLe.cons rfl ?_ ?_ | exact Le.refl _ | exact Le.own _ _ _ | exact Le.nil _)), (MLe.drop _ (MLe.refl _))⟩
      · refine c_cond_t rfl ?_
        refine c_ret ?_
        exact out_none' rfl (MLe.drop _ (MLe.refl _)) (.inr ⟨_, by omega, hF2 g30⟩)
  · skip
    refine AOps.gt 13 rfl rfl rfl rfl rfl (op_move rfl rfl ?_)
    first | (refine AOps.gt 14 rfl rfl rfl rfl rfl (op_fieldAddr_m rfl tf_60_4 rfl ?_)) | (refine AOps.gt 14 rfl rfl rfl rfl rfl (op_fieldAddr_c rfl tf_60_4 rfl rfl ?_))
    first | (refine AOps.gt 15 rfl rfl rfl rfl rfl (op_load_m1 (i := 0) rfl ta_56 rfl rfl rfl ?_)) | (refine AOps.gt 15 rfl rfl rfl rfl rfl (op_load_m1 (i := 1) rfl ta_56 rfl rfl rfl ?_)) | (refine AOps.gt 15 rfl rfl rfl rfl rfl (op_load_m1 (i := 2) rfl ta_56 rfl rfl rfl ?_)) | (refine AOps.gt 15 rfl rfl rfl rfl rfl (op_load_m1 (i := 3) rfl ta_56 rfl rfl rfl ?_)) | (refine AOps.gt 15 rfl rfl rfl rfl rfl (op_load_m1 (i := 4) rfl ta_56 rfl rfl rfl ?_)) | (refine AOps.gt 15 rfl rfl rfl rfl rfl (op_load_m1 (i := 5) rfl ta_56 rfl rfl rfl ?_)) | (refine AOps.gt 15 rfl rfl rfl rfl rfl (op_load_c1 rfl ta_56 rfl rfl ?_))
    refine AOps.gt 16 rfl rfl rfl rfl rfl (op_callvm (xs := [.tmp 15])  [] rfl rfl rfl rfl (hA g11 M0 h0) (Les.refl _) (fun v16 M0 h16 => ?_))
    obtain ⟨c16, rfl, hT, hF⟩ := yres h16
    refine AOps.gt 17 rfl rfl rfl rfl rfl (op_notc rfl rfl ?_); intro c17 h17
    try replace h17 := nott h17 h16
    refine AOps.st 18 rfl rfl rfl (op_pick rfl rfl rfl ?_)
    refine AOps.nil ?_
    refine go_code ?_
    rcases bool_split h17 with ⟨rfl, g17⟩ | ⟨rfl, g17⟩
    · refine c_cond_f rfl ?_
      refine c_skip ?_
      refine go_code ?_
      refine c_seq ?_
      refine c_seq ?_
      refine c_region ?_
      first | (refine AOps.st 19 rfl rfl rfl (op_fieldAddr_m rfl tf_60_6 rfl ?_)) | (refine AOps.st 19 rfl rfl rfl (op_fieldAddr_c rfl tf_60_6 rfl rfl ?_))
      first | (refine AOps.st 20 rfl rfl rfl (op_load_m1 (i := 0) rfl ta_58 rfl rfl rfl ?_)) | (refine AOps.st 20 rfl rfl rfl (op_load_m1 (i := 1) rfl ta_58 rfl rfl rfl ?_)) | (refine AOps.st 20 rfl rfl rfl (op_load_m1 (i := 2) rfl ta_58 rfl rfl rfl ?_)) | (refine AOps.st 20 rfl rfl rfl (op_load_m1 (i := 3) rfl ta_58 rfl rfl rfl ?_)) | (refine AOps.st 20 rfl rfl rfl (op_load_m1 (i := 4) rfl ta_58 rfl rfl rfl ?_)) | (refine AOps.st 20 rfl rfl rfl (op_load_m1 (i := 5) rfl ta_58 rfl rfl rfl ?_)) | (refine AOps.st 20 rfl rfl rfl (op_load_c1 rfl ta_58 rfl rfl ?_))
      refine AOps.st 21 rfl rfl rfl (op_len rfl tu_58 rfl (.seq _ _) (fun n21 => ?_))
      refine AOps.st 22 rfl rfl rfl (op_move rfl rfl ?_)
      refine AOps.nil ?_
      refine go_code ?_
      refine c_block ?_
      refine c_loop (σ := Nat × Mem) (fun zz => match zz with | (i, M) => [(1, .cptr (Ex.mk k s n ⟨tk, ts, tn, tks⟩ ks al bs p).cells), (2, .cptr [yv l]), (3, .clo (.func 116) [] [.cptr [yv l]]), (20, .seq 13 (Bi.cellss bs)), (21, .val (.int .i64 (Bi.cellss bs).length)), (22, .val (.int .i64 i))]) (fun zz => match zz with | (i, M) => M) (fun zz => match zz with | (i, M) => i ≤ bs.length ∧ J (k1 + i) M) (fun zz => match zz with | (i, M) => bs.length - i) ((0, M0)) ?_ ?_ ?_ ?_
      · refine ⟨by omega, ?_⟩
        rw [show k1 + 0 = 0 + ks.length from by omega]; exact hT (by simpa using g17)
      · exact (by repeat' (first | exact SLe.nil _ | refine SLe.cons rfl ?_ ?_ | exact Le.refl _ | exact Le.own _ _ _ | exact Le.nil _))
      · exact (by first | exact MLe.none _ | exact MLe.refl _ | (repeat' (first | exact MLe.nil | exact MLe.refl _ | refine MLe.cons _ ?_ | refine MLe.drop _ ?_)))
      rintro ⟨i, M⟩ hI
      try dsimp only at hI ⊢
      obtain ⟨hi, hJ⟩ := hI
      refine c_seq ?_
      refine c_region ?_
      refine AOps.st 23 rfl rfl rfl (op_lss rfl rfl rfl ?_); intro c23 h23
      refine AOps.nil ?_
      refine go_code ?_
      refine c_seq ?_
      rcases bool_split h23 with ⟨rfl, g23⟩ | ⟨rfl, g23⟩
      · refine c_cond_f rfl ?_
        refine c_exit ?_
        refine x_code ?_
        refine x_lp ?_
        refine x_here ?_
        refine go_code ?_
        refine c_seq ?_
        refine c_seq ?_
        have hJ2 : J (k1 + bs.length) M := by rwa [show i = bs.length from by omega] at hJ
        refine c_region ?_
        first | (refine AOps.st 32 rfl rfl rfl (op_fieldAddr_m rfl tf_60_0 rfl ?_)) | (refine AOps.st 32 rfl rfl rfl (op_fieldAddr_c rfl tf_60_0 rfl rfl ?_))
        first | (refine AOps.st 33 rfl rfl rfl (op_load_m1 (i := 0) rfl ta_3 rfl rfl rfl ?_)) | (refine AOps.st 33 rfl rfl rfl (op_load_m1 (i := 1) rfl ta_3 rfl rfl rfl ?_)) | (refine AOps.st 33 rfl rfl rfl (op_load_m1 (i := 2) rfl ta_3 rfl rfl rfl ?_)) | (refine AOps.st 33 rfl rfl rfl (op_load_m1 (i := 3) rfl ta_3 rfl rfl rfl ?_)) | (refine AOps.st 33 rfl rfl rfl (op_load_m1 (i := 4) rfl ta_3 rfl rfl rfl ?_)) | (refine AOps.st 33 rfl rfl rfl (op_load_m1 (i := 5) rfl ta_3 rfl rfl rfl ?_)) | (refine AOps.st 33 rfl rfl rfl (op_load_c1 rfl ta_3 rfl rfl ?_))
        refine AOps.st 34 rfl rfl rfl (op_eql rfl rfl rfl ?_); intro c34 h34
        refine AOps.st 35 rfl rfl rfl (op_move rfl rfl ?_)
        rcases bool_split h34 with ⟨rfl, g34⟩ | ⟨rfl, g34⟩
        · skip
          refine AOps.gf 36 rfl rfl rfl rfl rfl ?_
          refine AOps.gf 37 rfl rfl rfl rfl rfl ?_
          refine AOps.gf 38 rfl rfl rfl rfl rfl ?_
          refine AOps.gf 39 rfl rfl rfl rfl rfl ?_
          refine AOps.gf 40 rfl rfl rfl rfl rfl ?_
          refine AOps.st 41 rfl rfl rfl (op_pick rfl rfl rfl ?_)
          refine AOps.nil ?_
          refine go_code ?_
          refine c_cond_f rfl ?_
          refine c_skip ?_
          refine go_code ?_
          refine c_seq ?_
          refine c_region ?_
          first | (refine AOps.st 42 rfl rfl rfl (op_fieldAddr_m rfl tf_60_5 rfl ?_)) | (refine AOps.st 42 rfl rfl rfl (op_fieldAddr_c rfl tf_60_5 rfl rfl ?_))
          first | (refine AOps.st 43 rfl rfl rfl (op_load_m1 (i := 0) rfl ta_57 rfl rfl rfl ?_)) | (refine AOps.st 43 rfl rfl rfl (op_load_m1 (i := 1) rfl ta_57 rfl rfl rfl ?_)) | (refine AOps.st 43 rfl rfl rfl (op_load_m1 (i := 2) rfl ta_57 rfl rfl rfl ?_)) | (refine AOps.st 43 rfl rfl rfl (op_load_m1 (i := 3) rfl ta_57 rfl rfl rfl ?_)) | (refine AOps.st 43 rfl rfl rfl (op_load_m1 (i := 4) rfl ta_57 rfl rfl rfl ?_)) | (refine AOps.st 43 rfl rfl rfl (op_load_m1 (i := 5) rfl ta_57 rfl rfl rfl ?_)) | (refine AOps.st 43 rfl rfl rfl (op_load_c1 rfl ta_57 rfl rfl ?_))
          refine AOps.st 44 rfl rfl rfl (op_len rfl tu_57 rfl (.seq _ _) (fun n44 => ?_))
          refine AOps.st 45 rfl rfl rfl (op_move rfl rfl ?_)
          refine AOps.nil ?_
          refine go_code ?_
          refine c_block ?_
          refine c_loop (σ := Nat × Mem) (fun zz => match zz with | (j, M) => [(2, .cptr [yv l]), (43, .seq 16 (Al.cellss al)), (44, .val (.int .i64 (Al.cellss al).length)), (45, .val (.int .i64 j))]) (fun zz => match zz with | (j, M) => M) (fun zz => match zz with | (j, M) => j ≤ al.length ∧ J (ks.length + bs.length + j) M) (fun zz => match zz with | (j, M) => al.length - j) ((0, M)) ?_ ?_ ?_ ?_
          · refine ⟨by omega, ?_⟩
            first | (exfalso; omega) | (rw [show ks.length + bs.length + 0 = k1 + bs.length + ks.length from by omega]; exact hT3 (by simpa using g40)) | (rw [show ks.length + bs.length + 0 = k1 + bs.length from by omega]; exact hJ2)
          · exact (by repeat' (first | exact SLe.nil _ | refine SLe.cons rfl ?_ ?_ | exact Le.refl _ | exact Le.own _ _ _ | exact Le.nil _))
          · exact (by first | exact MLe.none _ | exact MLe.refl _ | (repeat' (first | exact MLe.nil | exact MLe.refl _ | refine MLe.cons _ ?_ | refine MLe.drop _ ?_)))
          rintro ⟨j, M⟩ hI
          try dsimp only at hI ⊢
          obtain ⟨hj, hJ3⟩ := hI
          refine c_seq ?_
          refine c_region ?_
          refine AOps.st 46 rfl rfl rfl (op_lss rfl rfl rfl ?_); intro c46 h46
          refine AOps.nil ?_
          refine go_code ?_
          refine c_seq ?_
          rcases bool_split h46 with ⟨rfl, g46⟩ | ⟨rfl, g46⟩
          · refine c_cond_f rfl ?_
            refine c_exit ?_
            refine x_code ?_
            refine x_lp ?_
            refine x_here ?_
            refine go_end ?_
            refine out_none rfl (MLe.refl _) (.inl ?_)
            rwa [show j = al.length from by omega] at hJ3
          · refine c_cond_t rfl ?_
            refine c_skip ?_
            refine go_code ?_
            refine c_seq ?_
            refine c_block ?_
            refine c_seq ?_
            obtain ⟨⟨⟨zk, zs, zn, zks, zp⟩, ⟨yk, yn, yu, ⟨ytk, yts, ytn, ytks⟩, yks, yal, ybs, yp⟩⟩, hx⟩ := get_some (l := al) (i := j) (by omega)
            have hcx := Al.cellss_get hx
            refine c_region ?_
            refine AOps.st 47 rfl rfl rfl (op_index rfl te_57 rfl (.seq _ _) rfl rfl (by assumption) ?_)
            first | (refine AOps.st 48 rfl rfl rfl (op_load_m (cs' := [_, _, _, _, _, _, _, _, _, _, _, _, _, _, _, _]) (i := 0) rfl ta_70 rfl rfl rfl rfl ?_)) | (refine AOps.st 48 rfl rfl rfl (op_load_m (cs' := [_, _, _, _, _, _, _, _, _, _, _, _, _, _, _, _]) (i := 1) rfl ta_70 rfl rfl rfl rfl ?_)) | (refine AOps.st 48 rfl rfl rfl (op_load_m (cs' := [_, _, _, _, _, _, _, _, _, _, _, _, _, _, _, _]) (i := 2) rfl ta_70 rfl rfl rfl rfl ?_)) | (refine AOps.st 48 rfl rfl rfl (op_load_m (cs' := [_, _, _, _, _, _, _, _, _, _, _, _, _, _, _, _]) (i := 3) rfl ta_70 rfl rfl rfl rfl ?_)) | (refine AOps.st 48 rfl rfl rfl (op_load_m (cs' := [_, _, _, _, _, _, _, _, _, _, _, _, _, _, _, _]) (i := 4) rfl ta_70 rfl rfl rfl rfl ?_)) | (refine AOps.st 48 rfl rfl rfl (op_load_m (cs' := [_, _, _, _, _, _, _, _, _, _, _, _, _, _, _, _]) (i := 5) rfl ta_70 rfl rfl rfl rfl ?_)) | (refine AOps.st 48 rfl rfl rfl (op_load_c (cs' := [_, _, _, _, _, _, _, _, _, _, _, _, _, _, _, _]) rfl ta_70 rfl rfl rfl ?_))
            refine AOps.st 7 rfl rfl rfl (op_alloce (cs' := [_, _, _, _, _, _, _, _, _, _, _, _, _, _, _, _]) rfl tz_70 rfl rfl ?_); intro b7
            refine AOps.st0 rfl rfl (op_store (cs' := [_, _, _, _, _, _, _, _, _, _, _, _, _, _, _, _]) (i := 0) rfl ts_70 rfl rfl rfl rfl rfl (Nat.le_of_ble_eq_true rfl) rfl ?_)
            refine AOps.nil ?_
            refine go_code ?_
            refine c_seq ?_
            refine c_region ?_
            refine AOps.st 49 rfl rfl rfl (op_load_c1 rfl ta_63 rfl rfl ?_)
            refine AOps.st 50 rfl rfl rfl (op_fieldAddr_m rfl tf_70_1 rfl ?_)
            refine AOps.st 51 rfl rfl rfl (op_load_m (cs' := [_, _, _, _, _, _, _, _, _, _, _]) (i := 0) rfl ta_60 rfl rfl rfl rfl ?_)
            refine AOps.st 52 rfl rfl rfl (op_yield (xs := [.tmp 51])  [.loc b7 _] rfl rfl rfl rfl (hD j _ M hx hJ3) (Les.refl _) (fun v52 M52 h52 => ?_))
            obtain ⟨c52, rfl, hT4, hF4⟩ := yres h52
            refine AOps.st 53 rfl rfl rfl (op_notc rfl rfl ?_); intro c53 h53
            try replace h53 := nott h53 h52
            refine AOps.nil ?_
            refine go_code ?_
            rcases bool_split h53 with ⟨rfl, g53⟩ | ⟨rfl, g53⟩
            · refine c_cond_f rfl ?_
              refine c_skip ?_
              refine go_blk ?_
              refine go_code ?_
              refine c_region ?_
              refine AOps.st 54 rfl rfl rfl (op_add rfl rfl rfl (IntWalk.i64_in _ (by omega)) ?_)
              refine AOps.st 45 rfl rfl rfl (op_move rfl rfl ?_)
              refine AOps.nil ?_
              refine go_lp ?_
              exact ⟨(j + 1, M52), ⟨by omega, hT4 (by simpa using g53)⟩, by simp; omega, (by repeat' (first | exact SLe.nil _ | refine SLe.cons rfl ?_ ?_ | exact Le.refl _ | exact Le.own _ _ _ | exact Le.nil _)), (MLe.drop _ (MLe.refl _))⟩
            · refine c_cond_t rfl ?_
              refine c_ret ?_
              exact out_none' rfl (MLe.drop _ (MLe.refl _)) (.inr ⟨_, by omega, hF4 g53⟩)
        · skip
          refine AOps.gt 36 rfl rfl rfl rfl rfl (op_move rfl rfl ?_)
          first | (refine AOps.gt 37 rfl rfl rfl rfl rfl (op_fieldAddr_m rfl tf_60_4 rfl ?_)) | (refine AOps.gt 37 rfl rfl rfl rfl rfl (op_fieldAddr_c rfl tf_60_4 rfl rfl ?_))
          first | (refine AOps.gt 38 rfl rfl rfl rfl rfl (op_load_m1 (i := 0) rfl ta_56 rfl rfl rfl ?_)) | (refine AOps.gt 38 rfl rfl rfl rfl rfl (op_load_m1 (i := 1) rfl ta_56 rfl rfl rfl ?_)) | (refine AOps.gt 38 rfl rfl rfl rfl rfl (op_load_m1 (i := 2) rfl ta_56 rfl rfl rfl ?_)) | (refine AOps.gt 38 rfl rfl rfl rfl rfl (op_load_m1 (i := 3) rfl ta_56 rfl rfl rfl ?_)) | (refine AOps.gt 38 rfl rfl rfl rfl rfl (op_load_m1 (i := 4) rfl ta_56 rfl rfl rfl ?_)) | (refine AOps.gt 38 rfl rfl rfl rfl rfl (op_load_m1 (i := 5) rfl ta_56 rfl rfl rfl ?_)) | (refine AOps.gt 38 rfl rfl rfl rfl rfl (op_load_c1 rfl ta_56 rfl rfl ?_))
          refine AOps.gt 39 rfl rfl rfl rfl rfl (op_callvm (xs := [.tmp 38])  [] rfl rfl rfl rfl (hC g34 M hJ2) (Les.refl _) (fun v39 M h39 => ?_))
          obtain ⟨c39, rfl, hT3, hF3⟩ := yres h39
          refine AOps.gt 40 rfl rfl rfl rfl rfl (op_notc rfl rfl ?_); intro c40 h40
          try replace h40 := nott h40 h39
          refine AOps.st 41 rfl rfl rfl (op_pick rfl rfl rfl ?_)
          refine AOps.nil ?_
          refine go_code ?_
          rcases bool_split h40 with ⟨rfl, g40⟩ | ⟨rfl, g40⟩
          · refine c_cond_f rfl ?_
            refine c_skip ?_
            refine go_code ?_
            refine c_seq ?_
            refine c_region ?_
            first | (refine AOps.st 42 rfl rfl rfl (op_fieldAddr_m rfl tf_60_5 rfl ?_)) | (refine AOps.st 42 rfl rfl rfl (op_fieldAddr_c rfl tf_60_5 rfl rfl ?_))
            first | (refine AOps.st 43 rfl rfl rfl (op_load_m1 (i := 0) rfl ta_57 rfl rfl rfl ?_)) | (refine AOps.st 43 rfl rfl rfl (op_load_m1 (i := 1) rfl ta_57 rfl rfl rfl ?_)) | (refine AOps.st 43 rfl rfl rfl (op_load_m1 (i := 2) rfl ta_57 rfl rfl rfl ?_)) | (refine AOps.st 43 rfl rfl rfl (op_load_m1 (i := 3) rfl ta_57 rfl rfl rfl ?_)) | (refine AOps.st 43 rfl rfl rfl (op_load_m1 (i := 4) rfl ta_57 rfl rfl rfl ?_)) | (refine AOps.st 43 rfl rfl rfl (op_load_m1 (i := 5) rfl ta_57 rfl rfl rfl ?_)) | (refine AOps.st 43 rfl rfl rfl (op_load_c1 rfl ta_57 rfl rfl ?_))
            refine AOps.st 44 rfl rfl rfl (op_len rfl tu_57 rfl (.seq _ _) (fun n44 => ?_))
            refine AOps.st 45 rfl rfl rfl (op_move rfl rfl ?_)
            refine AOps.nil ?_
            refine go_code ?_
            refine c_block ?_
            refine c_loop (σ := Nat × Mem) (fun zz => match zz with | (j, M) => [(2, .cptr [yv l]), (43, .seq 16 (Al.cellss al)), (44, .val (.int .i64 (Al.cellss al).length)), (45, .val (.int .i64 j))]) (fun zz => match zz with | (j, M) => M) (fun zz => match zz with | (j, M) => j ≤ al.length ∧ J (ks.length + bs.length + j) M) (fun zz => match zz with | (j, M) => al.length - j) ((0, M)) ?_ ?_ ?_ ?_
            · refine ⟨by omega, ?_⟩
              exfalso; omega
            · exact (by repeat' (first | exact SLe.nil _ | refine SLe.cons rfl ?_ ?_ | exact Le.refl _ | exact Le.own _ _ _ | exact Le.nil _))
            · exact (by first | exact MLe.none _ | exact MLe.refl _ | (repeat' (first | exact MLe.nil | exact MLe.refl _ | refine MLe.cons _ ?_ | refine MLe.drop _ ?_)))
            rintro ⟨j, M⟩ hI
            try dsimp only at hI ⊢
            obtain ⟨hj, hJ3⟩ := hI
            refine c_seq ?_
            refine c_region ?_
            refine AOps.st 46 rfl rfl rfl (op_lss rfl rfl rfl ?_); intro c46 h46
            refine AOps.nil ?_
            refine go_code ?_
            refine c_seq ?_
            rcases bool_split h46 with ⟨rfl, g46⟩ | ⟨rfl, g46⟩
            · refine c_cond_f rfl ?_
              refine c_exit ?_
              refine x_code ?_
              refine x_lp ?_
              refine x_here ?_
              refine go_end ?_
              refine out_none rfl (MLe.refl _) (.inl ?_)
              rwa [show j = al.length from by omega] at hJ3
            · refine c_cond_t rfl ?_
              refine c_skip ?_
              refine go_code ?_
              refine c_seq ?_
              refine c_block ?_
              refine c_seq ?_
              obtain ⟨⟨⟨zk, zs, zn, zks, zp⟩, ⟨yk, yn, yu, ⟨ytk, yts, ytn, ytks⟩, yks, yal, ybs, yp⟩⟩, hx⟩ := get_some (l := al) (i := j) (by omega)
              have hcx := Al.cellss_get hx
              refine c_region ?_
              refine AOps.st 47 rfl rfl rfl (op_index rfl te_57 rfl (.seq _ _) rfl rfl (by assumption) ?_)
              first | (refine AOps.st 48 rfl rfl rfl (op_load_m (cs' := [_, _, _, _, _, _, _, _, _, _, _, _, _, _, _, _]) (i := 0) rfl ta_70 rfl rfl rfl rfl ?_)) | (refine AOps.st 48 rfl rfl rfl (op_load_m (cs' := [_, _, _, _, _, _, _, _, _, _, _, _, _, _, _, _]) (i := 1) rfl ta_70 rfl rfl rfl rfl ?_)) | (refine AOps.st 48 rfl rfl rfl (op_load_m (cs' := [_, _, _, _, _, _, _, _, _, _, _, _, _, _, _, _]) (i := 2) rfl ta_70 rfl rfl rfl rfl ?_)) | (refine AOps.st 48 rfl rfl rfl (op_load_m (cs' := [_, _, _, _, _, _, _, _, _, _, _, _, _, _, _, _]) (i := 3) rfl ta_70 rfl rfl rfl rfl ?_)) | (refine AOps.st 48 rfl rfl rfl (op_load_m (cs' := [_, _, _, _, _, _, _, _, _, _, _, _, _, _, _, _]) (i := 4) rfl ta_70 rfl rfl rfl rfl ?_)) | (refine AOps.st 48 rfl rfl rfl (op_load_m (cs' := [_, _, _, _, _, _, _, _, _, _, _, _, _, _, _, _]) (i := 5) rfl ta_70 rfl rfl rfl rfl ?_)) | (refine AOps.st 48 rfl rfl rfl (op_load_c (cs' := [_, _, _, _, _, _, _, _, _, _, _, _, _, _, _, _]) rfl ta_70 rfl rfl rfl ?_))
              refine AOps.st 7 rfl rfl rfl (op_alloce (cs' := [_, _, _, _, _, _, _, _, _, _, _, _, _, _, _, _]) rfl tz_70 rfl rfl ?_); intro b7
              refine AOps.st0 rfl rfl (op_store (cs' := [_, _, _, _, _, _, _, _, _, _, _, _, _, _, _, _]) (i := 0) rfl ts_70 rfl rfl rfl rfl rfl (Nat.le_of_ble_eq_true rfl) rfl ?_)
              refine AOps.nil ?_
              refine go_code ?_
              refine c_seq ?_
              refine c_region ?_
              refine AOps.st 49 rfl rfl rfl (op_load_c1 rfl ta_63 rfl rfl ?_)
              refine AOps.st 50 rfl rfl rfl (op_fieldAddr_m rfl tf_70_1 rfl ?_)
              refine AOps.st 51 rfl rfl rfl (op_load_m (cs' := [_, _, _, _, _, _, _, _, _, _, _]) (i := 0) rfl ta_60 rfl rfl rfl rfl ?_)
              refine AOps.st 52 rfl rfl rfl (op_yield (xs := [.tmp 51])  [.loc b7 _] rfl rfl rfl rfl (hD j _ M hx hJ3) (Les.refl _) (fun v52 M52 h52 => ?_))
              obtain ⟨c52, rfl, hT4, hF4⟩ := yres h52
              refine AOps.st 53 rfl rfl rfl (op_notc rfl rfl ?_); intro c53 h53
              try replace h53 := nott h53 h52
              refine AOps.nil ?_
              refine go_code ?_
              rcases bool_split h53 with ⟨rfl, g53⟩ | ⟨rfl, g53⟩
              · refine c_cond_f rfl ?_
                refine c_skip ?_
                refine go_blk ?_
                refine go_code ?_
                refine c_region ?_
                refine AOps.st 54 rfl rfl rfl (op_add rfl rfl rfl (IntWalk.i64_in _ (by omega)) ?_)
                refine AOps.st 45 rfl rfl rfl (op_move rfl rfl ?_)
                refine AOps.nil ?_
                refine go_lp ?_
                exact ⟨(j + 1, M52), ⟨by omega, hT4 (by simpa using g53)⟩, by simp; omega, (by repeat' (first | exact SLe.nil _ | refine SLe.cons rfl ?_ ?_ | exact Le.refl _ | exact Le.own _ _ _ | exact Le.nil _)), (MLe.drop _ (MLe.refl _))⟩
              · refine c_cond_t rfl ?_
                refine c_ret ?_
                exact out_none' rfl (MLe.drop _ (MLe.refl _)) (.inr ⟨_, by omega, hF4 g53⟩)
          · refine c_cond_t rfl ?_
            refine c_ret ?_
            obtain ⟨kk, hkk, hJx⟩ := hF3 g40
            exact out_none' rfl (MLe.refl _) (.inr ⟨kk, by omega, hJx⟩)
      · refine c_cond_t rfl ?_
        refine c_skip ?_
        refine go_code ?_
        refine c_seq ?_
        refine c_block ?_
        refine c_seq ?_
        obtain ⟨⟨ys, ⟨yk, yn, yu, ⟨ytk, yts, ytn, ytks⟩, yks, yal, ybs, yp⟩, yq⟩, hx⟩ := get_some (l := bs) (i := i) (by omega)
        have hcx := Bi.cellss_get hx
        refine c_region ?_
        refine AOps.st 24 rfl rfl rfl (op_index rfl te_58 rfl (.seq _ _) rfl rfl (by assumption) ?_)
        first | (refine AOps.st 25 rfl rfl rfl (op_load_m (cs' := [_, _, _, _, _, _, _, _, _, _, _, _, _]) (i := 0) rfl ta_74 rfl rfl rfl rfl ?_)) | (refine AOps.st 25 rfl rfl rfl (op_load_m (cs' := [_, _, _, _, _, _, _, _, _, _, _, _, _]) (i := 1) rfl ta_74 rfl rfl rfl rfl ?_)) | (refine AOps.st 25 rfl rfl rfl (op_load_m (cs' := [_, _, _, _, _, _, _, _, _, _, _, _, _]) (i := 2) rfl ta_74 rfl rfl rfl rfl ?_)) | (refine AOps.st 25 rfl rfl rfl (op_load_m (cs' := [_, _, _, _, _, _, _, _, _, _, _, _, _]) (i := 3) rfl ta_74 rfl rfl rfl rfl ?_)) | (refine AOps.st 25 rfl rfl rfl (op_load_m (cs' := [_, _, _, _, _, _, _, _, _, _, _, _, _]) (i := 4) rfl ta_74 rfl rfl rfl rfl ?_)) | (refine AOps.st 25 rfl rfl rfl (op_load_m (cs' := [_, _, _, _, _, _, _, _, _, _, _, _, _]) (i := 5) rfl ta_74 rfl rfl rfl rfl ?_)) | (refine AOps.st 25 rfl rfl rfl (op_load_c (cs' := [_, _, _, _, _, _, _, _, _, _, _, _, _]) rfl ta_74 rfl rfl rfl ?_))
        refine AOps.st 5 rfl rfl rfl (op_alloce (cs' := [_, _, _, _, _, _, _, _, _, _, _, _, _]) rfl tz_74 rfl rfl ?_); intro b5
        refine AOps.st0 rfl rfl (op_store (cs' := [_, _, _, _, _, _, _, _, _, _, _, _, _]) (i := 0) rfl ts_74 rfl rfl rfl rfl rfl (Nat.le_of_ble_eq_true rfl) rfl ?_)
        refine AOps.nil ?_
        refine go_code ?_
        refine c_seq ?_
        refine c_region ?_
        refine AOps.st 26 rfl rfl rfl (op_load_c1 rfl ta_63 rfl rfl ?_)
        refine AOps.st 27 rfl rfl rfl (op_fieldAddr_m rfl tf_74_1 rfl ?_)
        refine AOps.st 28 rfl rfl rfl (op_load_m (cs' := [_, _, _, _, _, _, _, _, _, _, _]) (i := 0) rfl ta_60 rfl rfl rfl rfl ?_)
        refine AOps.st 29 rfl rfl rfl (op_yield (xs := [.tmp 28])  [.loc b5 _] rfl rfl rfl rfl (hB i _ M hx hJ) (Les.refl _) (fun v29 M29 h29 => ?_))
        obtain ⟨c29, rfl, hT2, hF2⟩ := yres h29
        refine AOps.st 30 rfl rfl rfl (op_notc rfl rfl ?_); intro c30 h30
        try replace h30 := nott h30 h29
        refine AOps.nil ?_
        refine go_code ?_
        rcases bool_split h30 with ⟨rfl, g30⟩ | ⟨rfl, g30⟩
        · refine c_cond_f rfl ?_
          refine c_skip ?_
          refine go_blk ?_
          refine go_code ?_
          refine c_region ?_
          refine AOps.st 31 rfl rfl rfl (op_add rfl rfl rfl (IntWalk.i64_in _ (by omega)) ?_)
          refine AOps.st 22 rfl rfl rfl (op_move rfl rfl ?_)
          refine AOps.nil ?_
          refine go_lp ?_
          exact ⟨(i + 1, M29), ⟨by omega, hT2 (by simpa using g30)⟩, by simp; omega, (by repeat' (first | exact SLe.nil _ | refine SLe.cons rfl ?_ ?_ | exact Le.refl _ | exact Le.own _ _ _ | exact Le.nil _)), (MLe.drop _ (MLe.refl _))⟩
        · refine c_cond_t rfl ?_
          refine c_ret ?_
          exact out_none' rfl (MLe.drop _ (MLe.refl _)) (.inr ⟨_, by omega, hF2 g30⟩)
    · refine c_cond_t rfl ?_
      refine c_ret ?_
      obtain ⟨kk, hkk, hJx⟩ := hF g17
      exact out_none' rfl (MLe.refl _) (.inr ⟨kk, by omega, hJx⟩)
set_option maxHeartbeats 4000000 in
set_option maxRecDepth 100000 in
theorem parts_c (e : Ex) : PCall Try.prog 85 [.agg e.cells] (.clo (.func 115) [] [.cptr e.cells]) := by
  obtain ⟨k, s, n, ⟨tk, ts, tn, tks⟩, ks, al, bs, p⟩ := e
  refine ACall.enter Try.func85 rfl (by kernel_rfl) rfl (Nat.le_of_ble_eq_true rfl) ?_
  refine c_start ?_
  refine c_seq ?_
  refine c_region ?_
  refine AOps.st 1 rfl rfl rfl (op_boxc (cs' := [_, _, _, _, _, _, _, _, _, _, _]) rfl rfl rfl rfl ?_)
  refine AOps.st 2 rfl rfl rfl (op_assign rfl rfl ?_)
  refine AOps.nil ?_
  refine go_code ?_
  refine c_seq ?_
  refine c_region ?_
  refine AOps.st 3 rfl rfl rfl (op_makeFunc (fs := []) (cs := [.tmp 1]) rfl rfl rfl ?_)
  refine AOps.st 2 rfl rfl rfl (op_assign rfl rfl ?_)
  refine AOps.nil ?_
  refine go_code ?_
  refine c_ret ?_
  exact out_tmp rfl rfl (Le.refl _) (by first | exact MLe.none _ | exact MLe.refl _ | (repeat' (first | exact MLe.nil | exact MLe.refl _ | refine MLe.cons _ ?_ | refine MLe.drop _ ?_))) ⟨rfl, rfl⟩
set_option maxHeartbeats 4000000 in
set_option maxRecDepth 100000 in
theorem Size_c (e : Ex) (hs : e.sz ≤ 1000000000) : PCall Try.prog 41 [.agg e.cells] (.val (.int .i64 e.sz)) := by
  have IH : ∀ x ∈ e.parts, PCall Try.prog 41 [.agg x.cells] (.val (.int .i64 x.sz)) := fun x hx => Size_c x (Nat.le_trans (Nat.le_of_lt (Ex.sz_part hx)) hs)
  have hsz := Ex.sz_eq e
  have HP := parts_c e
  have HI := parts_it e
  have htake := sum_take_le (e.parts.map Ex.sz)
  have hsum : ∀ k x, e.parts[k]? = some x → ((e.parts.map Ex.sz).take (k + 1)).sum = ((e.parts.map Ex.sz).take k).sum + x.sz := fun k x hx => sum_take (by simp [hx])
  generalize hps : e.parts = ps at *
  generalize e.sz = esz at *
  obtain ⟨k, s, n, ⟨tk, ts, tn, tks⟩, ks, al, bs, p⟩ := e
  refine ACall.enter Try.func41 rfl (by kernel_rfl) rfl (Nat.le_of_ble_eq_true rfl) ?_
  refine c_start ?_
  refine c_seq ?_
  refine c_region ?_
  refine AOps.st 1 rfl rfl rfl (op_boxc (cs' := [_, _, _, _, _, _, _, _, _, _, _]) rfl rfl rfl rfl ?_)
  refine AOps.st 2 rfl rfl rfl (op_assign rfl rfl ?_)
  refine AOps.nil ?_
  refine go_code ?_
  refine c_seq ?_
  refine c_region ?_
  refine AOps.st 3 rfl rfl rfl (op_alloce (cs' := [_]) rfl tz_3 rfl rfl ?_); intro b3
  refine AOps.st0 rfl rfl (op_store (cs' := [_]) (i := 0) rfl ts_3 rfl rfl rfl rfl rfl (Nat.le_of_ble_eq_true rfl) rfl ?_)
  refine AOps.nil ?_
  refine go_code ?_
  refine c_seq ?_
  refine c_seq ?_
  refine c_region ?_
  refine AOps.st 5 rfl rfl rfl (op_load_c (cs' := [_, _, _, _, _, _, _, _, _, _, _]) rfl ta_60 rfl rfl rfl ?_)
  refine AOps.st 6 rfl rfl rfl (op_callp (xs := [.tmp 5]) rfl rfl (HP) (by first | exact Les.refl _ | (repeat' (first | exact Les.refl _ | refine Les.cons ?_ ?_ | exact Le.refl _ | exact Le.own _ _ _ | exact Le.nil _ | refine Le.agg ?_))) ?_)
  refine AOps.nil ?_
  refine go_code ?_
  refine c_block ?_
  refine c_range (xs := ps.map arg1) (ps := [7]) rfl (HI) (fun k M => MLe M [.loc b3 [.val (.int .i64 (1 + ((ps.map Ex.sz).take k).sum : Nat))]]) (fun _ _ => False) (MLe.refl _) (by simp [arg1]) rfl ?_ ?_ ?_
  · rintro l k x M0 hx hJ
    refine ACode.le (SLe.refl _) hJ ?_
    simp only [List.getElem?_map, Option.map_eq_some_iff] at hx
    obtain ⟨y, hx, rfl⟩ := hx
    have hIH := IH y (List.mem_of_getElem? hx)
    have e1 := hsum _ _ hx
    have e2 := htake (k + 1)
    have e3 := htake k
    generalize y.sz = ysz at *
    obtain ⟨yk, yn, yu, ⟨ytk, yts, ytn, ytks⟩, yks, yal, ybs, yp⟩ := y
    refine c_asg ?_
    refine c_region ?_
    refine AOps.st 4 rfl rfl rfl (op_alloce (cs' := [_, _, _, _, _, _, _, _, _, _, _]) rfl tz_60 rfl rfl ?_); intro b4
    refine AOps.st0 rfl rfl (op_store (cs' := [_, _, _, _, _, _, _, _, _, _, _]) (i := 0) rfl ts_60 rfl rfl rfl rfl rfl (Nat.le_of_ble_eq_true rfl) rfl ?_)
    refine AOps.nil ?_
    refine go_lp ?_
    show ACode _ _ _ _ _ _ _
    refine c_start ?_
    refine c_block ?_
    refine c_drawnE [0, 1, 2, 3, 4] [4] [[], [], [1], [0, 1, 2], [0, 1, 2, 3]] tmix rfl ?_
    first | (refine EOps.d 8 (some 0) (i := 0) rfl rfl rfl rfl rfl (op_load_m1 (i := 0) rfl ta_3 rfl rfl rfl ⟨rfl, rfl⟩) ?_) | (refine EOps.d 8 (some 1) (i := 0) rfl rfl rfl rfl rfl (op_load_m1 (i := 0) rfl ta_3 rfl rfl rfl ⟨rfl, rfl⟩) ?_)
    refine EOps.d 9 (some 0) (i := 1) rfl rfl rfl rfl rfl (op_load_m (cs' := [_, _, _, _, _, _, _, _, _, _, _]) (i := 0) rfl ta_60 rfl rfl rfl rfl ⟨rfl, rfl⟩) ?_
    refine EOps.d 10 (none) (i := 2) rfl rfl rfl rfl rfl (op_callp (xs := [.tmp 9]) rfl rfl (hIH) (by first | exact Les.refl _ | (repeat' (first | exact Les.refl _ | refine Les.cons ?_ ?_ | exact Le.refl _ | exact Le.own _ _ _ | exact Le.nil _ | refine Le.agg ?_))) ⟨rfl, rfl⟩) ?_
    refine EOps.d 11 (none) (i := 3) rfl rfl rfl rfl rfl (op_add rfl rfl rfl (IntWalk.i64_in _ (by omega)) ⟨rfl, rfl⟩) ?_
    first | (refine EOps.w 0 (i := 4) rfl rfl rfl rfl rfl (op_store (cs' := [_]) (i := 0) rfl ts_3 rfl rfl rfl rfl rfl (Nat.le_of_ble_eq_true rfl) rfl ⟨_, rfl, ?_⟩)) | (refine EOps.w 1 (i := 4) rfl rfl rfl rfl rfl (op_store (cs' := [_]) (i := 0) rfl ts_3 rfl rfl rfl rfl rfl (Nat.le_of_ble_eq_true rfl) rfl ⟨_, rfl, ?_⟩))
    show AGo _ _ _ _ _ _ _
    refine go_blk ?_
    refine go_end ?_
    show MLe _ _
    rw [show ((1 + ((ps.map Ex.sz).take (k + 1)).sum : Nat) : Int) = ((1 + ((ps.map Ex.sz).take k).sum : Nat) : Int) + ysz from by rw [e1]; omega]
    exact (by first | exact MLe.none _ | exact MLe.refl _ | (repeat' (first | exact MLe.nil | exact MLe.refl _ | refine MLe.cons _ ?_ | refine MLe.drop _ ?_)))
  · rintro M9 hJ
    refine go_blk ?_
    refine go_le (SLe.refl _) hJ ?_ ⟨_, _, rfl⟩
    rw [List.length_map, List.take_of_length_le (by simp), ← hsz]
    refine go_code ?_
    refine c_seq ?_
    refine c_region ?_
    refine AOps.st 12 rfl rfl rfl (op_load_m1 (i := 0) rfl ta_3 rfl rfl rfl ?_)
    refine AOps.st 2 rfl rfl rfl (op_assign rfl rfl ?_)
    refine AOps.nil ?_
    refine go_code ?_
    refine c_ret ?_
    exact out_tmp rfl rfl (Le.refl _) (by first | exact MLe.none _ | exact MLe.refl _ | (repeat' (first | exact MLe.nil | exact MLe.refl _ | refine MLe.cons _ ?_ | refine MLe.drop _ ?_))) ⟨rfl, rfl⟩
  · rintro c9 M9 hJ
    exact hJ.elim
termination_by SizeOf.sizeOf e
decreasing_by exact Ex.lt_part hx
set_option maxHeartbeats 4000000 in
set_option maxRecDepth 100000 in
theorem Deep_c (e : Ex) (hs : e.sz ≤ 1000000000) : PCall Try.prog 43 [.agg e.cells] (.val (.int .i64 e.dp)) := by
  have IH : ∀ x ∈ e.parts, PCall Try.prog 43 [.agg x.cells] (.val (.int .i64 x.dp)) := fun x hx => Deep_c x (Nat.le_trans (Nat.le_of_lt (Ex.sz_part hx)) hs)
  have hsz := Ex.dp_eq e
  have hle := Ex.dp_le e
  have HP := parts_c e
  have HI := parts_it e
  have hsum : ∀ k x, e.parts[k]? = some x → maxOf ((e.parts.map Ex.dp).take (k + 1)) = max (maxOf ((e.parts.map Ex.dp).take k)) x.dp := fun k x hx => maxOf_take (by simp [hx])
  generalize hps : e.parts = ps at *
  generalize e.dp = edp at *
  generalize e.sz = esz at *
  obtain ⟨k, s, n, ⟨tk, ts, tn, tks⟩, ks, al, bs, p⟩ := e
  refine ACall.enter Try.func43 rfl (by kernel_rfl) rfl (Nat.le_of_ble_eq_true rfl) ?_
  refine c_start ?_
  refine c_seq ?_
  refine c_region ?_
  refine AOps.st 1 rfl rfl rfl (op_boxc (cs' := [_, _, _, _, _, _, _, _, _, _, _]) rfl rfl rfl rfl ?_)
  refine AOps.st 2 rfl rfl rfl (op_assign rfl rfl ?_)
  refine AOps.nil ?_
  refine go_code ?_
  refine c_seq ?_
  refine c_region ?_
  refine AOps.st 3 rfl rfl rfl (op_alloce (cs' := [_]) rfl tz_3 rfl rfl ?_); intro b3
  refine AOps.st0 rfl rfl (op_store (cs' := [_]) (i := 0) rfl ts_3 rfl rfl rfl rfl rfl (Nat.le_of_ble_eq_true rfl) rfl ?_)
  refine AOps.nil ?_
  refine go_code ?_
  refine c_seq ?_
  refine c_seq ?_
  refine c_region ?_
  refine AOps.st 5 rfl rfl rfl (op_load_c (cs' := [_, _, _, _, _, _, _, _, _, _, _]) rfl ta_60 rfl rfl rfl ?_)
  refine AOps.st 6 rfl rfl rfl (op_callp (xs := [.tmp 5]) rfl rfl (HP) (by first | exact Les.refl _ | (repeat' (first | exact Les.refl _ | refine Les.cons ?_ ?_ | exact Le.refl _ | exact Le.own _ _ _ | exact Le.nil _ | refine Le.agg ?_))) ?_)
  refine AOps.nil ?_
  refine go_code ?_
  refine c_block ?_
  refine c_range (xs := ps.map arg1) (ps := [7]) rfl (HI) (fun k M => MLe M [.loc b3 [.val (.int .i64 (maxOf ((ps.map Ex.dp).take k)))]]) (fun _ _ => False) (MLe.refl _) (by simp [arg1]) rfl ?_ ?_ ?_
  · rintro l k x M0 hx hJ
    refine ACode.le (SLe.refl _) hJ ?_
    simp only [List.getElem?_map, Option.map_eq_some_iff] at hx
    obtain ⟨y, hx, rfl⟩ := hx
    have hIH := IH y (List.mem_of_getElem? hx)
    have e1 := hsum _ _ hx
    generalize y.dp = ysz at *
    obtain ⟨yk, yn, yu, ⟨ytk, yts, ytn, ytks⟩, yks, yal, ybs, yp⟩ := y
    refine c_asg ?_
    refine c_region ?_
    refine AOps.st 4 rfl rfl rfl (op_alloce (cs' := [_, _, _, _, _, _, _, _, _, _, _]) rfl tz_60 rfl rfl ?_); intro b4
    refine AOps.st0 rfl rfl (op_store (cs' := [_, _, _, _, _, _, _, _, _, _, _]) (i := 0) rfl ts_60 rfl rfl rfl rfl rfl (Nat.le_of_ble_eq_true rfl) rfl ?_)
    refine AOps.nil ?_
    refine go_lp ?_
    show ACode _ _ _ _ _ _ _
    refine c_start ?_
    refine c_block ?_
    refine c_drawnE [0, 1, 2, 3, 4] [4] [[], [], [1], [0, 1, 2], [0, 1, 2, 3]] tmix rfl ?_
    first | (refine EOps.d 8 (some 0) (i := 0) rfl rfl rfl rfl rfl (op_load_m1 (i := 0) rfl ta_3 rfl rfl rfl ⟨rfl, rfl⟩) ?_) | (refine EOps.d 8 (some 1) (i := 0) rfl rfl rfl rfl rfl (op_load_m1 (i := 0) rfl ta_3 rfl rfl rfl ⟨rfl, rfl⟩) ?_)
    refine EOps.d 9 (some 0) (i := 1) rfl rfl rfl rfl rfl (op_load_m (cs' := [_, _, _, _, _, _, _, _, _, _, _]) (i := 0) rfl ta_60 rfl rfl rfl rfl ⟨rfl, rfl⟩) ?_
    refine EOps.d 10 (none) (i := 2) rfl rfl rfl rfl rfl (op_callp (xs := [.tmp 9]) rfl rfl (hIH) (by first | exact Les.refl _ | (repeat' (first | exact Les.refl _ | refine Les.cons ?_ ?_ | exact Le.refl _ | exact Le.own _ _ _ | exact Le.nil _ | refine Le.agg ?_))) ⟨rfl, rfl⟩) ?_
    refine EOps.d 11 (none) (i := 3) rfl rfl rfl rfl rfl (op_max rfl rfl rfl ⟨rfl, rfl⟩) ?_
    first | (refine EOps.w 0 (i := 4) rfl rfl rfl rfl rfl (op_store (cs' := [_]) (i := 0) rfl ts_3 rfl rfl rfl rfl rfl (Nat.le_of_ble_eq_true rfl) rfl ⟨_, rfl, ?_⟩)) | (refine EOps.w 1 (i := 4) rfl rfl rfl rfl rfl (op_store (cs' := [_]) (i := 0) rfl ts_3 rfl rfl rfl rfl rfl (Nat.le_of_ble_eq_true rfl) rfl ⟨_, rfl, ?_⟩))
    show AGo _ _ _ _ _ _ _
    refine go_blk ?_
    refine go_end ?_
    show MLe _ _
    rw [e1, show ((max (maxOf ((ps.map Ex.dp).take k)) ysz : Nat) : Int) = max ((maxOf ((ps.map Ex.dp).take k) : Nat) : Int) (ysz : Int) from by omega]
    exact (by first | exact MLe.none _ | exact MLe.refl _ | (repeat' (first | exact MLe.nil | exact MLe.refl _ | refine MLe.cons _ ?_ | refine MLe.drop _ ?_)))
  · rintro M9 hJ
    refine go_blk ?_
    refine go_le (SLe.refl _) hJ ?_ ⟨_, _, rfl⟩
    rw [List.length_map, List.take_of_length_le (by simp), show ((maxOf (ps.map Ex.dp) : Nat) : Int) = (edp : Int) - 1 from by omega]
    refine go_code ?_
    refine c_seq ?_
    refine c_region ?_
    refine AOps.st 12 rfl rfl rfl (op_load_m1 (i := 0) rfl ta_3 rfl rfl rfl ?_)
    refine AOps.st 13 rfl rfl rfl (op_add rfl rfl rfl (IntWalk.i64_in _ (by omega)) ?_)
    refine AOps.st 2 rfl rfl rfl (op_assign rfl rfl ?_)
    refine AOps.nil ?_
    refine go_code ?_
    refine c_ret ?_
    rw [show (edp : Int) - 1 + 1 = edp from by omega]
    exact out_tmp rfl rfl (Le.refl _) (by first | exact MLe.none _ | exact MLe.refl _ | (repeat' (first | exact MLe.nil | exact MLe.refl _ | refine MLe.cons _ ?_ | refine MLe.drop _ ?_))) ⟨rfl, rfl⟩
  · rintro c9 M9 hJ
    exact hJ.elim
termination_by SizeOf.sizeOf e
decreasing_by exact Ex.lt_part hx
end Go.Proofs.Ytjgjnheeohfmmaa
