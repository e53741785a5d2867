/- StrsTwo returns true for every input: any two texts, or other words, are in the document's order, and one behind the other the document's text, if there is room. -/
import Derived.Test.YtecpnlhjjmcllaaJLSTwo6
import Derived.Test.YtecpnlhjjmcllaaRows
import Derived.ProofKit
import Derived.SizedLaws
import Derived.OpenShut
import Derived.Test.YtecpnlhjjmcllaaChecked
namespace Go.Proofs.Ytecpnlhjjmcllaa
open Go.RowKit
/-- a variable whose second cell is nil holds a slice of the call's own there -/
theorem MImp.ownNil2 (b : Nat) (c0 : AV) (e : TypeId) (m : Nat) (M : Mem) : MImp (.loc b [c0, .val (.slice none 0 0)] :: M) (.loc b [c0, .own (.slice none 0 0) m []] :: .own e m (.slice none 0 0) :: M) := fun B F Mf w x => by
  refine MImp.swap _ _ _ B F Mf w ?_
  have h := x.ownNil e m
  refine ⟨h.base, h.fix, fun r hr => ?_, ?_⟩
  · simp only [List.cons_append, List.mem_cons] at hr
    rcases hr with rfl | rfl | hr
    · exact h.ok _ (by simp)
    · obtain ⟨h1, h2, vs, T, h3, h4, h5⟩ := h.ok (.loc b [c0, .val (.slice none 0 0)]) (by simp)
      refine ⟨h1, h2, vs, T, h3, ?_, h5⟩
      cases h4 with
      | cons k ks =>
        cases ks with
        | cons k2 ks2 =>
          cases ks2
          cases k2
          exact .cons k (.cons (.own _ (.seq0 m none 0 (fun _ => rfl))) .nil)
    · exact h.ok r (by simp [hr])
  · have := h.far
    rw [far_map] at this ⊢
    simpa [Res.blk] using this
def Rw.Lim (x : Rw) : Prop := -9223372036854775808 ≤ x.kd ∧ x.kd ≤ 9223372036854775807 ∧ -9223372036854775808 ≤ x.tg ∧ x.tg ≤ 9223372036854775807 ∧ ∀ y ∈ x.ps, 0 ≤ y ∧ y ≤ 18446744073709551615
/-- a heap and the words of what was put into it -/
structure Both (sz : Int) (H : List HO) (ws : List Int) : Prop where
  ok : ∀ o ∈ H, o.ok
  fit : (used H : Int) ≤ sz
  len : H.length ≤ used H
  wsb : ∀ w ∈ ws, 0 ≤ w ∧ w ≤ 2 * sz
theorem Both.step {sz : Int} {H H' : List HO} {ws : List Int} {o : HO} {ok : Bool} {w : Int} (h : Both sz H ws) (hr : AllocR sz H o ok w H') (hb : ∀ y ∈ o.parts, 0 ≤ y ∧ y ≤ 18446744073709551615) : Both sz H' (ws ++ [w]) ∧ (ok = true ↔ w ≠ 0) := by
  have hf := h.fit
  rcases hr with ⟨⟨h1, h2, h3⟩, rfl, rfl, rfl⟩ | ⟨_, rfl, rfl, rfl⟩
  · refine ⟨⟨fun x hx => ?_, ?_, ?_, fun y hy => ?_⟩, by simp; omega⟩
    · rcases List.mem_append.1 hx with q | q
      · exact h.ok x q
      · simp at q; subst q; exact ⟨h1, h2, hb⟩
    · rw [used_app, used_one]; omega
    · rw [used_app, used_one, List.length_append]; have := h.len; simp; omega
    · rcases List.mem_append.1 hy with q | q
      · exact h.wsb y q
      · simp at q; subst q; omega
  · refine ⟨⟨h.ok, h.fit, h.len, fun y hy => ?_⟩, by simp⟩
    rcases List.mem_append.1 hy with q | q
    · exact h.wsb y q
    · simp at q; subst q; omega
set_option maxHeartbeats 4000000 in
set_option maxRecDepth 100000 in
theorem both_c (l : List ByteArray) (r : List Rw) (sz : Int) (h : 1 ≤ sz) (hs : sz ≤ 100000) (hl : ∀ s ∈ l, s.size ≤ 100000) (hr : ∀ x ∈ r, x.ps.length ≤ 100000) (hll : l.length ≤ 20) (hrl : r.length ≤ 10) (hrb : ∀ x ∈ r, x.Lim) :
    ACall Try.prog 28 [.seq 1 (sls l), .seq 3 (rws r), .val (.int .i64 sz)] [] (fun v M' => ∃ b br q0 q1 q2 p0 p1 u ws H, v = .tup [.ptr b 0, .ptr br 0, .own u 1 (ws.map iv), .val (.bool true)] ∧ M' = [.own 42 1 u, q0, q1, q2, p0, p1] ∧ HeapAt b sz H [q0, q1, q2] ∧ RefAt br sz H [p0, p1] ∧ Both sz H ws ∧ ws.length = l.length + r.length) := by
  have h1 := sls_len l
  have h2 := rws_len r
  refine ACall.enter Try.func28 rfl (by kernel_rfl) rfl (Nat.le_of_ble_eq_true rfl) ?_
  refine c_start ?_
  refine c_seq ?_
  refine c_region ?_
  refine AOps.st 6 rfl rfl rfl (op_assign rfl rfl ?_)
  refine AOps.st 7 rfl rfl rfl (op_assign rfl rfl ?_)
  refine AOps.st 8 rfl rfl rfl (op_assign rfl rfl ?_)
  refine AOps.st 9 rfl rfl rfl (op_assign rfl rfl ?_)
  refine AOps.nil ?_
  refine go_code ?_
  refine c_seq ?_
  refine c_region ?_
  refine AOps.st 24 rfl rfl rfl (op_move rfl rfl ?_)
  refine AOps.st 25 rfl rfl rfl (op_callat [] (xs := [.tmp 24]) rfl rfl rfl (New_y sz h (by omega)) (by first | exact Les.refl _ | (repeat' (first | exact Les.refl _ | refine Les.cons ?_ ?_ | exact Le.refl _ | exact Le.own _ _ _ | exact Le.nil _ | refine Le.agg ?_))) ?_)
  rintro v1 M1 ⟨b, rfl, hM0⟩
  obtain ⟨q0, q1, q2, rfl⟩ := hM0.three
  refine AOps.st 23 rfl rfl rfl (op_move rfl rfl ?_)
  refine AOps.st 26 rfl rfl rfl (op_extract rfl rfl rfl ?_)
  refine AOps.st 27 rfl rfl rfl (op_extract rfl rfl rfl ?_)
  refine AOps.st 10 rfl rfl rfl (op_assign rfl rfl ?_)
  refine AOps.st 11 rfl rfl rfl (op_assign rfl rfl ?_)
  refine AOps.nil ?_
  refine go_code ?_
  refine c_seq ?_
  refine c_seq ?_
  refine c_region ?_
  refine AOps.st 28 rfl rfl rfl (op_move rfl rfl ?_)
  refine AOps.st 29 rfl rfl rfl (op_neq rfl rfl rfl ?_); intro c29 h29
  refine AOps.nil ?_
  refine go_code ?_
  rcases bool_split h29 with ⟨rfl, g29⟩ | ⟨rfl, g29⟩
  · refine c_cond_f rfl ?_
    refine c_skip ?_
    refine go_code ?_
    refine c_seq ?_
    refine c_region ?_
    refine AOps.st 30 rfl rfl rfl (op_move rfl rfl ?_)
    refine AOps.st 31 rfl rfl rfl (op_build (ns := [0]) (xs := [.tmp 30]) rfl tz_33 rfl tfl_33 rfl rfl rfl rfl ?_)
    refine AOps.st 32 rfl rfl rfl (op_boxe (cs' := [_, _]) rfl rfl rfl rfl ?_); intro b32
    refine AOps.st 12 rfl rfl rfl (op_assign rfl rfl ?_)
    refine AOps.nil ?_
    refine go_code ?_
    refine c_seq ?_
    refine c_mem (MImp.ownNil2 b32 _ 86 4 _) ?_
    have hR0 : RefAt b32 sz [] [.loc b32 [.val (.int .i64 sz), .own (.slice none 0 0) 4 []], .own 86 4 (.slice none 0 0)] := ⟨_, rfl⟩
    refine c_region ?_
    refine AOps.st 13 rfl rfl rfl (op_assign rfl rfl ?_)
    refine AOps.nil ?_
    refine go_code ?_
    refine c_seq ?_
    refine c_seq ?_
    refine ACode.ownNil (t := 13) 42 1 rfl ?_
    refine ACode.perm (pick_perm (is := [0, 2, 2, 2, 0, 0]) rfl) ?_
    generalize Res.loc b32 [.val (.int .i64 sz), .own (.slice none 0 0) 4 []] = r0 at *
    generalize Res.own 86 4 (.slice none 0 0) = r1 at *
    refine c_region ?_
    refine AOps.st 33 rfl rfl rfl (op_move rfl rfl ?_)
    first | (refine AOps.st 34 rfl rfl rfl (op_len rfl tu_57 rfl (.seq _ _) (fun n34 => ?_))) | (refine AOps.st 34 rfl rfl rfl (op_len rfl tu_57 rfl (.own _ _ _) (fun n34 => ?_))) | (refine AOps.st 34 rfl rfl rfl (op_len rfl tu_57 rfl (.nil 0) (fun n34 => ?_))) | (refine AOps.st 34 rfl rfl rfl (op_len_arr rfl tu_57 rfl ?_))
    refine AOps.st 35 rfl rfl rfl (op_move rfl rfl ?_)
    refine AOps.nil ?_
    refine go_code ?_
    refine c_block ?_
    apply c_loopk [0, 2, 3, 4, 5, 6, 7, 8, 9, 11, 13, 14, 15, 16, 17, 18, 19, 22, 23, 24, 25, 26, 27, 28, 29, 30, 31, 32, 35, 36, 37, 38, 39, 40, 41, 42, 43, 44, 45, 46, 47, 48, 49, 50, 51, 52, 53, 54, 55, 56, 57, 58, 59, 60, 61, 62, 63, 64, 65, 66, 67, 68, 69, 70, 71, 72, 73, 74] (σ := Nat × Value × Res × Res × Res × Res × Res × List Int × List HO) (fun zz => match zz with | (k, u, q0, q1, q2, p0, p1, ws, H) => [(35, .val (.int .i64 k)), (13, .own u 1 (ws.map iv))]) (fun zz => match zz with | (k, u, q0, q1, q2, p0, p1, ws, H) => [.own 42 1 u, q0, q1, q2, p0, p1]) (fun zz => match zz with | (k, u, q0, q1, q2, p0, p1, ws, H) => k ≤ l.length ∧ HeapAt b sz H [q0, q1, q2] ∧ RefAt b32 sz H [p0, p1] ∧ Both sz H ws ∧ ws.length = k) (fun zz => match zz with | (k, u, q0, q1, q2, p0, p1, ws, H) => l.length - k) ((0, .slice none 0 0, q0, q1, q2, r0, r1, [], []))
    · repeat' (first | exact Drops.nil | apply Drops.keep rfl | apply Drops.skip rfl)
    · exact ⟨Nat.zero_le _, hM0, hR0, ⟨by simp, by simp [used_nil]; omega, by simp, by simp⟩, rfl⟩
    · exact (by repeat' (first | exact SLe.nil _ | refine SLe.cons rfl ?_ ?_ | exact Le.refl _ | exact Le.own _ _ _ | exact Le.nil _ | (refine Le.own_eq ?_; rfl) | (refine Le.own_seq ?_; rfl) | (refine Le.seq_eq ?_; rfl)))
    · exact (by first | exact MLe.none _ | exact MLe.refl _ | (repeat' (first | exact MLe.nil | exact MLe.refl _ | refine MLe.cons _ ?_ | refine MLe.drop _ ?_)))
    rintro ⟨k, u, q0, q1, q2, p0, p1, ws, H⟩ hI
    try dsimp only [List.cons_append, List.nil_append] at hI ⊢
    obtain ⟨hk, hM, hR, hB, hwl⟩ := hI
    refine c_seq ?_
    refine c_region ?_
    refine AOps.st 36 rfl rfl rfl (op_lss rfl rfl rfl ?_); intro c36 h36
    refine AOps.nil ?_
    refine go_code ?_
    refine c_seq ?_
    rcases bool_split h36 with ⟨rfl, g36⟩ | ⟨rfl, g36⟩
    · refine c_cond_f rfl ?_
      refine c_exit ?_
      refine x_code ?_
      refine x_lp ?_
      refine x_here ?_
      refine go_code ?_
      refine c_seq ?_
      refine c_seq ?_
      obtain rfl : k = l.length := by omega
      refine c_le (al' := [(1, .seq 3 (rws r)), (10, .ptr b 0), (12, .ptr b32 0), (13, .own u 1 (ws.map iv))]) (by repeat' (first | exact SLe.nil _ | refine SLe.cons rfl ?_ ?_ | exact Le.refl _ | exact Le.own _ _ _ | exact Le.nil _)) (MLe.refl _) ?_
      clear hM0 hR0
      refine c_region ?_
      refine AOps.st 75 rfl rfl rfl (op_move rfl rfl ?_)
      first | (refine AOps.st 76 rfl rfl rfl (op_len rfl tu_58 rfl (.seq _ _) (fun n76 => ?_))) | (refine AOps.st 76 rfl rfl rfl (op_len rfl tu_58 rfl (.own _ _ _) (fun n76 => ?_))) | (refine AOps.st 76 rfl rfl rfl (op_len rfl tu_58 rfl (.nil 0) (fun n76 => ?_))) | (refine AOps.st 76 rfl rfl rfl (op_len_arr rfl tu_58 rfl ?_))
      refine AOps.st 77 rfl rfl rfl (op_move rfl rfl ?_)
      refine AOps.nil ?_
      refine go_code ?_
      refine c_block ?_
      apply c_loopk [0, 1, 2, 3, 4, 5, 6, 7, 8, 9, 11, 13, 14, 15, 16, 17, 18, 19, 20, 21, 22, 23, 24, 25, 26, 27, 28, 29, 30, 31, 32, 33, 34, 35, 36, 37, 38, 39, 40, 41, 42, 43, 44, 45, 46, 47, 48, 49, 50, 51, 52, 53, 54, 55, 56, 57, 58, 59, 60, 61, 62, 63, 64, 65, 66, 67, 68, 69, 70, 71, 72, 73, 74, 77, 78, 79, 80, 81, 82, 83, 84, 85, 86, 87, 88, 89, 90, 91, 92, 93, 94, 95, 96, 97, 98, 99, 100, 101, 102, 103, 104, 105, 106] (σ := Nat × Value × Res × Res × Res × Res × Res × List Int × List HO) (fun zz => match zz with | (j, u, q0, q1, q2, p0, p1, ws, H) => [(77, .val (.int .i64 j)), (13, .own u 1 (ws.map iv))]) (fun zz => match zz with | (j, u, q0, q1, q2, p0, p1, ws, H) => [.own 42 1 u, q0, q1, q2, p0, p1]) (fun zz => match zz with | (j, u, q0, q1, q2, p0, p1, ws, H) => j ≤ r.length ∧ HeapAt b sz H [q0, q1, q2] ∧ RefAt b32 sz H [p0, p1] ∧ Both sz H ws ∧ ws.length = l.length + j) (fun zz => match zz with | (j, u, q0, q1, q2, p0, p1, ws, H) => r.length - j) ((0, u, q0, q1, q2, p0, p1, ws, H))
      · repeat' (first | exact Drops.nil | apply Drops.keep rfl | apply Drops.skip rfl)
      · exact ⟨Nat.zero_le _, hM, hR, hB, hwl⟩
      · exact (by repeat' (first | exact SLe.nil _ | refine SLe.cons rfl ?_ ?_ | exact Le.refl _ | exact Le.own _ _ _ | exact Le.nil _))
      · exact (by first | exact MLe.none _ | exact MLe.refl _ | (repeat' (first | exact MLe.nil | exact MLe.refl _ | refine MLe.cons _ ?_ | refine MLe.drop _ ?_)))
      rintro ⟨j, u, q0, q1, q2, p0, p1, ws, H⟩ hI
      try dsimp only [List.cons_append, List.nil_append] at hI ⊢
      clear hM hR hB hwl
      obtain ⟨hj, hM, hR, hB, hwl⟩ := hI
      refine c_seq ?_
      refine c_region ?_
      refine AOps.st 78 rfl rfl rfl (op_lss rfl rfl rfl ?_); intro c78 h78
      refine AOps.nil ?_
      refine go_code ?_
      refine c_seq ?_
      rcases bool_split h78 with ⟨rfl, g78⟩ | ⟨rfl, g78⟩
      · refine c_cond_f rfl ?_
        refine c_exit ?_
        refine x_code ?_
        refine x_lp ?_
        refine x_here ?_
        refine go_code ?_
        refine c_seq ?_
        obtain rfl : j = r.length := by omega
        refine c_region ?_
        refine AOps.st 107 rfl rfl rfl (op_move rfl rfl ?_)
        refine AOps.st 108 rfl rfl rfl (op_move rfl rfl ?_)
        refine AOps.st 109 rfl rfl rfl (op_move rfl rfl ?_)
        refine AOps.st 6 rfl rfl rfl (op_assign rfl rfl ?_)
        refine AOps.st 7 rfl rfl rfl (op_assign rfl rfl ?_)
        refine AOps.st 8 rfl rfl rfl (op_assign rfl rfl ?_)
        refine AOps.st 9 rfl rfl rfl (op_assign rfl rfl ?_)
        refine AOps.nil ?_
        refine go_code ?_
        refine c_ret ?_
        exact out_tttt rfl rfl rfl rfl rfl (Le.refl _) (MLe.refl _) ⟨b, b32, q0, q1, q2, p0, p1, u, ws, H, rfl, rfl, hM, hR, hB, hwl⟩
      · refine c_cond_t rfl ?_
        refine c_skip ?_
        refine go_code ?_
        refine c_seq ?_
        refine c_block ?_
        refine c_seq ?_
        obtain ⟨x, hx⟩ := getk (l := r) (i := j) (by omega)
        have hg := rws_get hx
        have hxm := List.mem_of_getElem? hx
        have hxl := hr x hxm
        obtain ⟨x1, x2, x3, x4, x5⟩ := hrb x hxm
        have hjl := get_lt hx
        have hfit := hB.fit
        have hlen := hB.len
        have hP := Alloc_u b sz H _ hM (by omega) (by omega) (by omega) ⟨x.kd, x.tg, x.ps⟩ x1 x2 x3 x4 (by show x.ps.length ≤ _; omega)
        have hPR := rAlloc_u b32 sz H _ hR (by omega) (by omega) (by omega) ⟨x.kd, x.tg, x.ps⟩ (by show x.ps.length ≤ _; omega)
        refine c_region ?_
        first | (refine AOps.st 79 rfl rfl rfl (op_index rfl te_58 rfl (.seq _ _) rfl rfl (hg) ?_)) | (refine AOps.st 79 rfl rfl rfl (op_index (i := 0) rfl te_58 rfl (.seq _ _) rfl rfl (by first | rfl | assumption) ?_)) | (refine AOps.st 79 rfl rfl rfl (op_index (i := 1) rfl te_58 rfl (.seq _ _) rfl rfl (by first | rfl | assumption) ?_)) | (refine AOps.st 79 rfl rfl rfl (op_index rfl te_58 rfl (.own _ _ _) rfl rfl (hg) ?_)) | (refine AOps.st 79 rfl rfl rfl (op_index (i := 0) rfl te_58 rfl (.own _ _ _) rfl rfl (by first | rfl | assumption) ?_)) | (refine AOps.st 79 rfl rfl rfl (op_index (i := 1) rfl te_58 rfl (.own _ _ _) rfl rfl (by first | rfl | assumption) ?_)) | (refine AOps.st 79 rfl rfl rfl (op_index_arr rfl te_58 rfl rfl rfl (by omega) ?_))
        first | (refine AOps.st 80 rfl rfl rfl (op_load_m (cs' := [_, _, _]) (i := 0) rfl ta_100 rfl rfl rfl rfl ?_)) | (refine AOps.st 80 rfl rfl rfl (op_load_m (cs' := [_, _, _]) (i := 1) rfl ta_100 rfl rfl rfl rfl ?_)) | (refine AOps.st 80 rfl rfl rfl (op_load_m (cs' := [_, _, _]) (i := 2) rfl ta_100 rfl rfl rfl rfl ?_)) | (refine AOps.st 80 rfl rfl rfl (op_load_m (cs' := [_, _, _]) (i := 3) rfl ta_100 rfl rfl rfl rfl ?_)) | (refine AOps.st 80 rfl rfl rfl (op_load_m (cs' := [_, _, _]) (i := 4) rfl ta_100 rfl rfl rfl rfl ?_)) | (refine AOps.st 80 rfl rfl rfl (op_load_m (cs' := [_, _, _]) (i := 5) rfl ta_100 rfl rfl rfl rfl ?_)) | (refine AOps.st 80 rfl rfl rfl (op_load_m (cs' := [_, _, _]) (i := 6) rfl ta_100 rfl rfl rfl rfl ?_)) | (refine AOps.st 80 rfl rfl rfl (op_load_m (cs' := [_, _, _]) (i := 7) rfl ta_100 rfl rfl rfl rfl ?_)) | (refine AOps.st 80 rfl rfl rfl (op_load_m (cs' := [_, _, _]) (i := 8) rfl ta_100 rfl rfl rfl rfl ?_)) | (refine AOps.st 80 rfl rfl rfl (op_load_m (cs' := [_, _, _]) (i := 9) rfl ta_100 rfl rfl rfl rfl ?_)) | (refine AOps.st 80 rfl rfl rfl (op_load_c (cs' := [_, _, _]) rfl ta_100 rfl rfl rfl ?_))
        refine AOps.st 20 rfl rfl rfl (op_alloce (cs' := [_, _, _]) rfl tz_100 rfl rfl ?_); intro b20
        first | (refine AOps.st0 rfl rfl (op_store (cs' := [_, _, _]) (i := 0) rfl ts_100 rfl rfl rfl rfl rfl (Nat.le_of_ble_eq_true rfl) rfl ?_)) | (refine AOps.st0 rfl rfl (op_store (cs' := [_, _, _]) (i := 1) rfl ts_100 rfl rfl rfl rfl rfl (Nat.le_of_ble_eq_true rfl) rfl ?_)) | (refine AOps.st0 rfl rfl (op_store (cs' := [_, _, _]) (i := 2) rfl ts_100 rfl rfl rfl rfl rfl (Nat.le_of_ble_eq_true rfl) rfl ?_)) | (refine AOps.st0 rfl rfl (op_store (cs' := [_, _, _]) (i := 3) rfl ts_100 rfl rfl rfl rfl rfl (Nat.le_of_ble_eq_true rfl) rfl ?_)) | (refine AOps.st0 rfl rfl (op_store (cs' := [_, _, _]) (i := 4) rfl ts_100 rfl rfl rfl rfl rfl (Nat.le_of_ble_eq_true rfl) rfl ?_)) | (refine AOps.st0 rfl rfl (op_store (cs' := [_, _, _]) (i := 5) rfl ts_100 rfl rfl rfl rfl rfl (Nat.le_of_ble_eq_true rfl) rfl ?_)) | (refine AOps.st0 rfl rfl (op_store (cs' := [_, _, _]) (i := 6) rfl ts_100 rfl rfl rfl rfl rfl (Nat.le_of_ble_eq_true rfl) rfl ?_)) | (refine AOps.st0 rfl rfl (op_store (cs' := [_, _, _]) (i := 7) rfl ts_100 rfl rfl rfl rfl rfl (Nat.le_of_ble_eq_true rfl) rfl ?_)) | (refine AOps.st0 rfl rfl (op_store (cs' := [_, _, _]) (i := 8) rfl ts_100 rfl rfl rfl rfl rfl (Nat.le_of_ble_eq_true rfl) rfl ?_)) | (refine AOps.st0 rfl rfl (op_store (cs' := [_, _, _]) (i := 9) rfl ts_100 rfl rfl rfl rfl rfl (Nat.le_of_ble_eq_true rfl) rfl ?_))
        refine AOps.nil ?_
        refine go_code ?_
        refine c_seq ?_
        refine c_region ?_
        refine AOps.st 82 rfl rfl rfl (op_move rfl rfl ?_)
        first | (refine AOps.st 83 rfl rfl rfl (op_fieldAddr_m rfl tf_100_0 rfl ?_)) | (refine AOps.st 83 rfl rfl rfl (op_fieldAddr_c rfl tf_100_0 rfl rfl ?_))
        first | (refine AOps.st 84 rfl rfl rfl (op_load_m1 (i := 0) rfl ta_3 rfl rfl rfl ?_)) | (refine AOps.st 84 rfl rfl rfl (op_load_m1 (i := 1) rfl ta_3 rfl rfl rfl ?_)) | (refine AOps.st 84 rfl rfl rfl (op_load_m1 (i := 2) rfl ta_3 rfl rfl rfl ?_)) | (refine AOps.st 84 rfl rfl rfl (op_load_m1 (i := 3) rfl ta_3 rfl rfl rfl ?_)) | (refine AOps.st 84 rfl rfl rfl (op_load_m1 (i := 4) rfl ta_3 rfl rfl rfl ?_)) | (refine AOps.st 84 rfl rfl rfl (op_load_m1 (i := 5) rfl ta_3 rfl rfl rfl ?_)) | (refine AOps.st 84 rfl rfl rfl (op_load_m1 (i := 6) rfl ta_3 rfl rfl rfl ?_)) | (refine AOps.st 84 rfl rfl rfl (op_load_m1 (i := 7) rfl ta_3 rfl rfl rfl ?_)) | (refine AOps.st 84 rfl rfl rfl (op_load_m1 (i := 8) rfl ta_3 rfl rfl rfl ?_)) | (refine AOps.st 84 rfl rfl rfl (op_load_m1 (i := 9) rfl ta_3 rfl rfl rfl ?_)) | (refine AOps.st 84 rfl rfl rfl (op_load_c1 rfl ta_3 rfl rfl ?_))
        first | (refine AOps.st 85 rfl rfl rfl (op_fieldAddr_m rfl tf_100_1 rfl ?_)) | (refine AOps.st 85 rfl rfl rfl (op_fieldAddr_c rfl tf_100_1 rfl rfl ?_))
        first | (refine AOps.st 86 rfl rfl rfl (op_load_m1 (i := 0) rfl ta_3 rfl rfl rfl ?_)) | (refine AOps.st 86 rfl rfl rfl (op_load_m1 (i := 1) rfl ta_3 rfl rfl rfl ?_)) | (refine AOps.st 86 rfl rfl rfl (op_load_m1 (i := 2) rfl ta_3 rfl rfl rfl ?_)) | (refine AOps.st 86 rfl rfl rfl (op_load_m1 (i := 3) rfl ta_3 rfl rfl rfl ?_)) | (refine AOps.st 86 rfl rfl rfl (op_load_m1 (i := 4) rfl ta_3 rfl rfl rfl ?_)) | (refine AOps.st 86 rfl rfl rfl (op_load_m1 (i := 5) rfl ta_3 rfl rfl rfl ?_)) | (refine AOps.st 86 rfl rfl rfl (op_load_m1 (i := 6) rfl ta_3 rfl rfl rfl ?_)) | (refine AOps.st 86 rfl rfl rfl (op_load_m1 (i := 7) rfl ta_3 rfl rfl rfl ?_)) | (refine AOps.st 86 rfl rfl rfl (op_load_m1 (i := 8) rfl ta_3 rfl rfl rfl ?_)) | (refine AOps.st 86 rfl rfl rfl (op_load_m1 (i := 9) rfl ta_3 rfl rfl rfl ?_)) | (refine AOps.st 86 rfl rfl rfl (op_load_c1 rfl ta_3 rfl rfl ?_))
        first | (refine AOps.st 87 rfl rfl rfl (op_fieldAddr_m rfl tf_100_2 rfl ?_)) | (refine AOps.st 87 rfl rfl rfl (op_fieldAddr_c rfl tf_100_2 rfl rfl ?_))
        first | (refine AOps.st 88 rfl rfl rfl (op_load_m1 (i := 0) rfl ta_34 rfl rfl rfl ?_)) | (refine AOps.st 88 rfl rfl rfl (op_load_m1 (i := 1) rfl ta_34 rfl rfl rfl ?_)) | (refine AOps.st 88 rfl rfl rfl (op_load_m1 (i := 2) rfl ta_34 rfl rfl rfl ?_)) | (refine AOps.st 88 rfl rfl rfl (op_load_m1 (i := 3) rfl ta_34 rfl rfl rfl ?_)) | (refine AOps.st 88 rfl rfl rfl (op_load_m1 (i := 4) rfl ta_34 rfl rfl rfl ?_)) | (refine AOps.st 88 rfl rfl rfl (op_load_m1 (i := 5) rfl ta_34 rfl rfl rfl ?_)) | (refine AOps.st 88 rfl rfl rfl (op_load_m1 (i := 6) rfl ta_34 rfl rfl rfl ?_)) | (refine AOps.st 88 rfl rfl rfl (op_load_m1 (i := 7) rfl ta_34 rfl rfl rfl ?_)) | (refine AOps.st 88 rfl rfl rfl (op_load_m1 (i := 8) rfl ta_34 rfl rfl rfl ?_)) | (refine AOps.st 88 rfl rfl rfl (op_load_m1 (i := 9) rfl ta_34 rfl rfl rfl ?_)) | (refine AOps.st 88 rfl rfl rfl (op_load_c1 rfl ta_34 rfl rfl ?_))
        refine AOps.st 89 rfl rfl rfl (op_callat [2,2,2] (xs := [.tmp 82, .tmp 84, .tmp 86, .tmp 88])  rfl rfl rfl hP (by first | exact Les.refl _ | (repeat' (first | exact Les.refl _ | refine Les.cons ?_ ?_ | exact Le.refl _ | exact Le.own _ _ _ | exact Le.nil _ | refine Le.agg ?_))) ?_)
        rintro v1 M1 ⟨ok, w, H', hA, rfl, hM2⟩
        obtain ⟨t0, t1, t2, rfl⟩ := hM2.three
        refine AOps.st 81 rfl rfl rfl (op_move rfl rfl ?_)
        refine AOps.st 90 rfl rfl rfl (op_extract rfl rfl rfl ?_)
        refine AOps.st 91 rfl rfl rfl (op_extract rfl rfl rfl ?_)
        refine AOps.st 21 rfl rfl rfl (op_assign rfl rfl ?_)
        refine AOps.st 22 rfl rfl rfl (op_assign rfl rfl ?_)
        refine AOps.nil ?_
        refine go_code ?_
        refine c_seq ?_
        refine c_seq ?_
        refine c_region ?_
        refine AOps.st 92 rfl rfl rfl (op_move rfl rfl ?_)
        refine AOps.st 93 rfl rfl rfl (op_move rfl rfl ?_)
        first | (refine AOps.st 94 rfl rfl rfl (op_fieldAddr_m rfl tf_100_0 rfl ?_)) | (refine AOps.st 94 rfl rfl rfl (op_fieldAddr_c rfl tf_100_0 rfl rfl ?_))
        first | (refine AOps.st 95 rfl rfl rfl (op_load_m1 (i := 0) rfl ta_3 rfl rfl rfl ?_)) | (refine AOps.st 95 rfl rfl rfl (op_load_m1 (i := 1) rfl ta_3 rfl rfl rfl ?_)) | (refine AOps.st 95 rfl rfl rfl (op_load_m1 (i := 2) rfl ta_3 rfl rfl rfl ?_)) | (refine AOps.st 95 rfl rfl rfl (op_load_m1 (i := 3) rfl ta_3 rfl rfl rfl ?_)) | (refine AOps.st 95 rfl rfl rfl (op_load_m1 (i := 4) rfl ta_3 rfl rfl rfl ?_)) | (refine AOps.st 95 rfl rfl rfl (op_load_m1 (i := 5) rfl ta_3 rfl rfl rfl ?_)) | (refine AOps.st 95 rfl rfl rfl (op_load_m1 (i := 6) rfl ta_3 rfl rfl rfl ?_)) | (refine AOps.st 95 rfl rfl rfl (op_load_m1 (i := 7) rfl ta_3 rfl rfl rfl ?_)) | (refine AOps.st 95 rfl rfl rfl (op_load_m1 (i := 8) rfl ta_3 rfl rfl rfl ?_)) | (refine AOps.st 95 rfl rfl rfl (op_load_m1 (i := 9) rfl ta_3 rfl rfl rfl ?_)) | (refine AOps.st 95 rfl rfl rfl (op_load_c1 rfl ta_3 rfl rfl ?_))
        first | (refine AOps.st 96 rfl rfl rfl (op_fieldAddr_m rfl tf_100_1 rfl ?_)) | (refine AOps.st 96 rfl rfl rfl (op_fieldAddr_c rfl tf_100_1 rfl rfl ?_))
        first | (refine AOps.st 97 rfl rfl rfl (op_load_m1 (i := 0) rfl ta_3 rfl rfl rfl ?_)) | (refine AOps.st 97 rfl rfl rfl (op_load_m1 (i := 1) rfl ta_3 rfl rfl rfl ?_)) | (refine AOps.st 97 rfl rfl rfl (op_load_m1 (i := 2) rfl ta_3 rfl rfl rfl ?_)) | (refine AOps.st 97 rfl rfl rfl (op_load_m1 (i := 3) rfl ta_3 rfl rfl rfl ?_)) | (refine AOps.st 97 rfl rfl rfl (op_load_m1 (i := 4) rfl ta_3 rfl rfl rfl ?_)) | (refine AOps.st 97 rfl rfl rfl (op_load_m1 (i := 5) rfl ta_3 rfl rfl rfl ?_)) | (refine AOps.st 97 rfl rfl rfl (op_load_m1 (i := 6) rfl ta_3 rfl rfl rfl ?_)) | (refine AOps.st 97 rfl rfl rfl (op_load_m1 (i := 7) rfl ta_3 rfl rfl rfl ?_)) | (refine AOps.st 97 rfl rfl rfl (op_load_m1 (i := 8) rfl ta_3 rfl rfl rfl ?_)) | (refine AOps.st 97 rfl rfl rfl (op_load_m1 (i := 9) rfl ta_3 rfl rfl rfl ?_)) | (refine AOps.st 97 rfl rfl rfl (op_load_c1 rfl ta_3 rfl rfl ?_))
        first | (refine AOps.st 98 rfl rfl rfl (op_fieldAddr_m rfl tf_100_2 rfl ?_)) | (refine AOps.st 98 rfl rfl rfl (op_fieldAddr_c rfl tf_100_2 rfl rfl ?_))
        first | (refine AOps.st 99 rfl rfl rfl (op_load_m1 (i := 0) rfl ta_34 rfl rfl rfl ?_)) | (refine AOps.st 99 rfl rfl rfl (op_load_m1 (i := 1) rfl ta_34 rfl rfl rfl ?_)) | (refine AOps.st 99 rfl rfl rfl (op_load_m1 (i := 2) rfl ta_34 rfl rfl rfl ?_)) | (refine AOps.st 99 rfl rfl rfl (op_load_m1 (i := 3) rfl ta_34 rfl rfl rfl ?_)) | (refine AOps.st 99 rfl rfl rfl (op_load_m1 (i := 4) rfl ta_34 rfl rfl rfl ?_)) | (refine AOps.st 99 rfl rfl rfl (op_load_m1 (i := 5) rfl ta_34 rfl rfl rfl ?_)) | (refine AOps.st 99 rfl rfl rfl (op_load_m1 (i := 6) rfl ta_34 rfl rfl rfl ?_)) | (refine AOps.st 99 rfl rfl rfl (op_load_m1 (i := 7) rfl ta_34 rfl rfl rfl ?_)) | (refine AOps.st 99 rfl rfl rfl (op_load_m1 (i := 8) rfl ta_34 rfl rfl rfl ?_)) | (refine AOps.st 99 rfl rfl rfl (op_load_m1 (i := 9) rfl ta_34 rfl rfl rfl ?_)) | (refine AOps.st 99 rfl rfl rfl (op_load_c1 rfl ta_34 rfl rfl ?_))
        refine AOps.st 100 rfl rfl rfl (op_callat [5,5] (xs := [.tmp 93, .tmp 95, .tmp 97, .tmp 99])  rfl rfl rfl hPR (by first | exact Les.refl _ | (repeat' (first | exact Les.refl _ | refine Les.cons ?_ ?_ | exact Le.refl _ | exact Le.own _ _ _ | exact Le.nil _ | refine Le.agg ?_))) ?_)
        rintro v1 M1 ⟨ok2, w2, H2, hA2, rfl, hR2⟩
        obtain ⟨u0, u1, rfl⟩ := hR2.two
        obtain ⟨rfl, rfl, rfl⟩ := hA.same hA2
        obtain ⟨hB2, how⟩ := hB.step hA x5
        refine AOps.st 101 rfl rfl rfl (op_neq rfl rfl rfl ?_); intro c101 h101
        refine AOps.nil ?_
        refine go_code ?_
        rcases bool_split h101 with ⟨rfl, g101⟩ | ⟨rfl, g101⟩
        · refine c_cond_f rfl ?_
          refine c_skip ?_
          refine go_code ?_
          refine ACode.perm (pick_perm (is := [6, 2, 2, 2, 0, 0]) rfl) ?_
          refine c_region ?_
          refine AOps.st 102 rfl rfl rfl (op_move rfl rfl ?_)
          refine AOps.st 103 rfl rfl rfl (op_move rfl rfl ?_)
          refine AOps.st 104 rfl rfl rfl (op_buildSlice (xs := [.tmp 103]) el_34 rfl rfl rfl rfl rfl rfl (Nat.le_of_ble_eq_true rfl) ?_)
          first | (refine AOps.st 105 rfl rfl rfl (op_append (i := 0) el_34 rfl rfl rfl rfl (.seq _ _) (by simp; omega) ?_)) | (refine AOps.st 105 rfl rfl rfl (op_append (i := 1) el_34 rfl rfl rfl rfl (.seq _ _) (by simp; omega) ?_)) | (refine AOps.st 105 rfl rfl rfl (op_append (i := 2) el_34 rfl rfl rfl rfl (.seq _ _) (by simp; omega) ?_)) | (refine AOps.st 105 rfl rfl rfl (op_append (i := 3) el_34 rfl rfl rfl rfl (.seq _ _) (by simp; omega) ?_)) | (refine AOps.st 105 rfl rfl rfl (op_append (i := 4) el_34 rfl rfl rfl rfl (.seq _ _) (by simp; omega) ?_)) | (refine AOps.st 105 rfl rfl rfl (op_append (i := 5) el_34 rfl rfl rfl rfl (.seq _ _) (by simp; omega) ?_)) | (refine AOps.st 105 rfl rfl rfl (op_append (i := 0) el_34 rfl rfl rfl rfl (.own _ _ _) (by simp; omega) ?_)) | (refine AOps.st 105 rfl rfl rfl (op_append (i := 1) el_34 rfl rfl rfl rfl (.own _ _ _) (by simp; omega) ?_)) | (refine AOps.st 105 rfl rfl rfl (op_append (i := 2) el_34 rfl rfl rfl rfl (.own _ _ _) (by simp; omega) ?_)) | (refine AOps.st 105 rfl rfl rfl (op_append (i := 3) el_34 rfl rfl rfl rfl (.own _ _ _) (by simp; omega) ?_)) | (refine AOps.st 105 rfl rfl rfl (op_append (i := 4) el_34 rfl rfl rfl rfl (.own _ _ _) (by simp; omega) ?_)) | (refine AOps.st 105 rfl rfl rfl (op_append (i := 5) el_34 rfl rfl rfl rfl (.own _ _ _) (by simp; omega) ?_)) | (refine AOps.st 105 rfl rfl rfl (op_append (i := 0) el_34 rfl rfl rfl rfl (.nil _) (by simp; omega) ?_)) | (refine AOps.st 105 rfl rfl rfl (op_append (i := 1) el_34 rfl rfl rfl rfl (.nil _) (by simp; omega) ?_)) | (refine AOps.st 105 rfl rfl rfl (op_append (i := 2) el_34 rfl rfl rfl rfl (.nil _) (by simp; omega) ?_)) | (refine AOps.st 105 rfl rfl rfl (op_append (i := 3) el_34 rfl rfl rfl rfl (.nil _) (by simp; omega) ?_)) | (refine AOps.st 105 rfl rfl rfl (op_append (i := 4) el_34 rfl rfl rfl rfl (.nil _) (by simp; omega) ?_)) | (refine AOps.st 105 rfl rfl rfl (op_append (i := 5) el_34 rfl rfl rfl rfl (.nil _) (by simp; omega) ?_)) | (refine AOps.st 105 rfl rfl rfl (op_append_nil el_34 rfl rfl rfl (.seq _ _) (by simp; omega) ?_)) | (refine AOps.st 105 rfl rfl rfl (op_append_nil el_34 rfl rfl rfl (.own _ _ _) (by simp; omega) ?_)) | (refine AOps.st 105 rfl rfl rfl (op_append_nil el_34 rfl rfl rfl (.nil _) (by simp; omega) ?_))
          intro u105
          refine AOps.st 13 rfl rfl rfl (op_assign rfl rfl ?_)
          refine AOps.nil ?_
          refine go_blk ?_
          refine go_code ?_
          refine c_region ?_
          first | (refine AOps.st 106 rfl rfl rfl (op_add rfl rfl rfl (IntWalk.i64_in _ (by omega)) ?_)) | (refine AOps.st 106 rfl rfl rfl (op_add rfl rfl rfl rfl ?_))
          refine AOps.st 77 rfl rfl rfl (op_move rfl rfl ?_)
          refine AOps.nil ?_
          refine go_lp ?_
          exact ⟨(j + 1, u105, t0, t1, t2, u0, u1, ws ++ [_], _), ⟨by show j + 1 ≤ _; omega, hM2, hR2, hB2, by simp [hwl]; omega⟩, by show r.length - (j + 1) < r.length - j; omega, SLe.cons rfl (Le.refl _) (SLe.cons rfl (Le.own_eq (by rw [List.map_append]; rfl)) (by repeat' (first | exact SLe.nil _ | refine SLe.cons rfl ?_ ?_ | exact Le.refl _ | exact Le.own _ _ _ | exact Le.nil _))), (by first | exact MLe.none _ | exact MLe.refl _ | (repeat' (first | exact MLe.nil | exact MLe.refl _ | refine MLe.cons _ ?_ | refine MLe.drop _ ?_)))⟩
        · refine c_cond_t rfl ?_
          refine c_seq ?_
          exact absurd rfl g101
    · refine c_cond_t rfl ?_
      refine c_skip ?_
      refine go_code ?_
      refine c_seq ?_
      refine c_block ?_
      refine c_seq ?_
      obtain ⟨s, hs'⟩ := getk (l := l) (i := k) (by omega)
      have hg := sls_get hs'
      have hsl := hl s (List.mem_of_getElem? hs')
      have hkl := get_lt hs'
      have hfit := hB.fit
      have hlen := hB.len
      have hP := Put_c b sz H _ hM (by omega) (by omega) (by omega) s (by omega)
      have hPR := rPut_c b32 sz H _ hR (by omega) (by omega) (by omega) s (by omega)
      refine c_region ?_
      first | (refine AOps.st 37 rfl rfl rfl (op_index rfl te_57 rfl (.seq _ _) rfl rfl (hg) ?_)) | (refine AOps.st 37 rfl rfl rfl (op_index (i := 0) rfl te_57 rfl (.seq _ _) rfl rfl (by first | rfl | assumption) ?_)) | (refine AOps.st 37 rfl rfl rfl (op_index (i := 1) rfl te_57 rfl (.seq _ _) rfl rfl (by first | rfl | assumption) ?_)) | (refine AOps.st 37 rfl rfl rfl (op_index rfl te_57 rfl (.own _ _ _) rfl rfl (hg) ?_)) | (refine AOps.st 37 rfl rfl rfl (op_index (i := 0) rfl te_57 rfl (.own _ _ _) rfl rfl (by first | rfl | assumption) ?_)) | (refine AOps.st 37 rfl rfl rfl (op_index (i := 1) rfl te_57 rfl (.own _ _ _) rfl rfl (by first | rfl | assumption) ?_)) | (refine AOps.st 37 rfl rfl rfl (op_index_arr rfl te_57 rfl rfl rfl (by omega) ?_))
      first | (refine AOps.st 38 rfl rfl rfl (op_load_m1 (i := 0) rfl ta_9 rfl rfl rfl ?_)) | (refine AOps.st 38 rfl rfl rfl (op_load_m1 (i := 1) rfl ta_9 rfl rfl rfl ?_)) | (refine AOps.st 38 rfl rfl rfl (op_load_m1 (i := 2) rfl ta_9 rfl rfl rfl ?_)) | (refine AOps.st 38 rfl rfl rfl (op_load_m1 (i := 3) rfl ta_9 rfl rfl rfl ?_)) | (refine AOps.st 38 rfl rfl rfl (op_load_m1 (i := 4) rfl ta_9 rfl rfl rfl ?_)) | (refine AOps.st 38 rfl rfl rfl (op_load_m1 (i := 5) rfl ta_9 rfl rfl rfl ?_)) | (refine AOps.st 38 rfl rfl rfl (op_load_m1 (i := 6) rfl ta_9 rfl rfl rfl ?_)) | (refine AOps.st 38 rfl rfl rfl (op_load_m1 (i := 7) rfl ta_9 rfl rfl rfl ?_)) | (refine AOps.st 38 rfl rfl rfl (op_load_m1 (i := 8) rfl ta_9 rfl rfl rfl ?_)) | (refine AOps.st 38 rfl rfl rfl (op_load_m1 (i := 9) rfl ta_9 rfl rfl rfl ?_)) | (refine AOps.st 38 rfl rfl rfl (op_load_c1 rfl ta_9 rfl rfl ?_))
      refine AOps.st 15 rfl rfl rfl (op_assign rfl rfl ?_)
      refine AOps.nil ?_
      refine go_code ?_
      refine c_seq ?_
      refine c_region ?_
      refine AOps.st 40 rfl rfl rfl (op_move rfl rfl ?_)
      refine AOps.st 41 rfl rfl rfl (op_move rfl rfl ?_)
      refine AOps.st 42 rfl rfl rfl (op_callat [1,1,1] (xs := [.tmp 40, .tmp 41])  rfl rfl rfl hP (by first | exact Les.refl _ | (repeat' (first | exact Les.refl _ | refine Les.cons ?_ ?_ | exact Le.refl _ | exact Le.own _ _ _ | exact Le.nil _ | refine Le.agg ?_))) ?_)
      rintro v1 M1 ⟨ok, w, H', hA, rfl, hM2⟩
      obtain ⟨t0, t1, t2, rfl⟩ := hM2.three
      refine AOps.st 39 rfl rfl rfl (op_move rfl rfl ?_)
      refine AOps.st 43 rfl rfl rfl (op_extract rfl rfl rfl ?_)
      refine AOps.st 44 rfl rfl rfl (op_extract rfl rfl rfl ?_)
      refine AOps.st 16 rfl rfl rfl (op_assign rfl rfl ?_)
      refine AOps.st 17 rfl rfl rfl (op_assign rfl rfl ?_)
      refine AOps.nil ?_
      refine go_code ?_
      refine c_seq ?_
      refine c_region ?_
      refine AOps.st 45 rfl rfl rfl (op_move rfl rfl ?_)
      refine AOps.st 46 rfl rfl rfl (op_move rfl rfl ?_)
      refine AOps.st 47 rfl rfl rfl (op_callat [4,4] (xs := [.tmp 45, .tmp 46])  rfl rfl rfl hPR (by first | exact Les.refl _ | (repeat' (first | exact Les.refl _ | refine Les.cons ?_ ?_ | exact Le.refl _ | exact Le.own _ _ _ | exact Le.nil _ | refine Le.agg ?_))) ?_)
      rintro v1 M1 ⟨ok2, w2, H2, hA2, rfl, hR2⟩
      obtain ⟨u0, u1, rfl⟩ := hR2.two
      obtain ⟨rfl, rfl, rfl⟩ := hA.same hA2
      obtain ⟨hB2, how⟩ := hB.step hA (txt_bounds s)
      have hf2 := hB2.fit
      have hUr := rUsed_c b32 sz _ _ hR2 (by omega)
      have hU := Used_c b sz _ _ hM2 (by omega) (by omega)
      refine AOps.st 18 rfl rfl rfl (op_assign rfl rfl ?_)
      refine AOps.nil ?_
      refine go_code ?_
      refine c_seq ?_
      refine c_seq ?_
      refine c_bool 69 (False) ?_ _ _ rfl ?_
      · skip
        refine AOps.st 48 rfl rfl rfl (op_move rfl rfl ?_)
        refine AOps.st 49 rfl rfl rfl (op_move rfl rfl ?_)
        refine AOps.st 50 rfl rfl rfl (op_neq rfl rfl rfl ?_); intro c50 h50
        refine AOps.st 51 rfl rfl rfl (op_move rfl rfl ?_)
        rcases bool_split h50 with ⟨rfl, g50⟩ | ⟨rfl, g50⟩
        · skip
          refine AOps.gt 52 rfl rfl rfl rfl rfl (op_move rfl rfl ?_)
          refine AOps.gt 53 rfl rfl rfl rfl rfl (op_move rfl rfl ?_)
          refine AOps.gt 54 rfl rfl rfl rfl rfl (op_neq rfl rfl rfl ?_); intro c54 h54
          refine AOps.gt 55 rfl rfl rfl rfl rfl (op_bneqc rfl tu_4 rfl rfl ?_); intro c55 h55
          refine AOps.st 56 rfl rfl rfl (op_pick rfl rfl rfl ?_)
          refine AOps.st 57 rfl rfl rfl (op_move rfl rfl ?_)
          rcases bool_split h55 with ⟨rfl, g55⟩ | ⟨rfl, g55⟩
          · skip
            refine AOps.gt 58 rfl rfl rfl rfl rfl (op_move rfl rfl ?_)
            refine AOps.gt 59 rfl rfl rfl rfl rfl (op_move rfl rfl ?_)
            refine AOps.gt 60 rfl rfl rfl rfl rfl (op_callk (xs := [.tmp 59]) [0,0] rfl rfl rfl (hUr) (by first | exact Les.refl _ | (repeat' (first | exact Les.refl _ | refine Les.cons ?_ ?_ | exact Le.refl _ | exact Le.own _ _ _ | exact Le.nil _ | refine Le.agg ?_))) ?_)
            refine AOps.gt 61 rfl rfl rfl rfl rfl (op_move rfl rfl ?_)
            refine AOps.gt 62 rfl rfl rfl rfl rfl (op_callk (xs := [.tmp 61]) [2,2,2] rfl rfl rfl (hU) (by first | exact Les.refl _ | (repeat' (first | exact Les.refl _ | refine Les.cons ?_ ?_ | exact Le.refl _ | exact Le.own _ _ _ | exact Le.nil _ | refine Le.agg ?_))) ?_)
            refine AOps.gt 63 rfl rfl rfl rfl rfl (op_eql rfl rfl rfl ?_); intro c63 h63
            refine AOps.gt 64 rfl rfl rfl rfl rfl (op_move rfl rfl ?_)
            rcases bool_split h63 with ⟨rfl, g63⟩ | ⟨rfl, g63⟩
            · skip
              refine AOps.gf 65 rfl rfl rfl rfl rfl ?_
              refine AOps.gf 66 rfl rfl rfl rfl rfl ?_
              refine AOps.gt 67 rfl rfl rfl rfl rfl (op_pick rfl rfl rfl ?_)
              refine AOps.gt 68 rfl rfl rfl rfl rfl (op_bneqc rfl tu_4 rfl rfl ?_); intro c68 h68
              refine AOps.st 69 rfl rfl rfl (op_pick rfl rfl rfl ?_)
              refine AOps.nil ?_
              refine BoolQ.mk rfl ?_ (by repeat' (first | exact SLe.wo _ _ | exact SLe.refl _ | refine SLe.fresh rfl ?_)) (by first | exact MLe.none _ | exact MLe.refl _ | (repeat' (first | exact MLe.nil | exact MLe.refl _ | refine MLe.cons _ ?_ | refine MLe.drop _ ?_)))
              clear hP hPR hUr hU hA hA2 hM hR hM2 hR2 hB hB2
              first | (simp_all; done) | grind
            · skip
              refine AOps.gt 65 rfl rfl rfl rfl rfl (op_move rfl rfl ?_)
              refine AOps.gt 66 rfl rfl rfl rfl rfl (op_neq rfl rfl rfl ?_); intro c66 h66
              refine AOps.gt 67 rfl rfl rfl rfl rfl (op_pick rfl rfl rfl ?_)
              refine AOps.gt 68 rfl rfl rfl rfl rfl (op_bneqc rfl tu_4 rfl rfl ?_); intro c68 h68
              refine AOps.st 69 rfl rfl rfl (op_pick rfl rfl rfl ?_)
              refine AOps.nil ?_
              refine BoolQ.mk rfl ?_ (by repeat' (first | exact SLe.wo _ _ | exact SLe.refl _ | refine SLe.fresh rfl ?_)) (by first | exact MLe.none _ | exact MLe.refl _ | (repeat' (first | exact MLe.nil | exact MLe.refl _ | refine MLe.cons _ ?_ | refine MLe.drop _ ?_)))
              clear hP hPR hUr hU hA hA2 hM hR hM2 hR2 hB hB2
              first | (simp_all; done) | grind
          · skip
            refine AOps.gf 58 rfl rfl rfl rfl rfl ?_
            refine AOps.gf 59 rfl rfl rfl rfl rfl ?_
            refine AOps.gf 60 rfl rfl rfl rfl rfl ?_
            refine AOps.gf 61 rfl rfl rfl rfl rfl ?_
            refine AOps.gf 62 rfl rfl rfl rfl rfl ?_
            refine AOps.gf 63 rfl rfl rfl rfl rfl ?_
            refine AOps.gf 64 rfl rfl rfl rfl rfl ?_
            refine AOps.gu 65 rfl rfl rfl rfl rfl ?_
            refine AOps.gu 66 rfl rfl rfl rfl rfl ?_
            refine AOps.gf 67 rfl rfl rfl rfl rfl ?_
            refine AOps.gf 68 rfl rfl rfl rfl rfl ?_
            refine AOps.st 69 rfl rfl rfl (op_pick rfl rfl rfl ?_)
            refine AOps.nil ?_
            refine BoolQ.mk rfl ?_ (by repeat' (first | exact SLe.wo _ _ | exact SLe.refl _ | refine SLe.fresh rfl ?_)) (by first | exact MLe.none _ | exact MLe.refl _ | (repeat' (first | exact MLe.nil | exact MLe.refl _ | refine MLe.cons _ ?_ | refine MLe.drop _ ?_)))
            clear hP hPR hUr hU hA hA2 hM hR hM2 hR2 hB hB2
            first | (simp_all; done) | grind
        · skip
          refine AOps.gf 52 rfl rfl rfl rfl rfl ?_
          refine AOps.gf 53 rfl rfl rfl rfl rfl ?_
          refine AOps.gf 54 rfl rfl rfl rfl rfl ?_
          refine AOps.gf 55 rfl rfl rfl rfl rfl ?_
          refine AOps.st 56 rfl rfl rfl (op_pick rfl rfl rfl ?_)
          refine AOps.st 57 rfl rfl rfl (op_move rfl rfl ?_)
          refine AOps.gf 58 rfl rfl rfl rfl rfl ?_
          refine AOps.gf 59 rfl rfl rfl rfl rfl ?_
          refine AOps.gf 60 rfl rfl rfl rfl rfl ?_
          refine AOps.gf 61 rfl rfl rfl rfl rfl ?_
          refine AOps.gf 62 rfl rfl rfl rfl rfl ?_
          refine AOps.gf 63 rfl rfl rfl rfl rfl ?_
          refine AOps.gf 64 rfl rfl rfl rfl rfl ?_
          refine AOps.gu 65 rfl rfl rfl rfl rfl ?_
          refine AOps.gu 66 rfl rfl rfl rfl rfl ?_
          refine AOps.gf 67 rfl rfl rfl rfl rfl ?_
          refine AOps.gf 68 rfl rfl rfl rfl rfl ?_
          refine AOps.st 69 rfl rfl rfl (op_pick rfl rfl rfl ?_)
          refine AOps.nil ?_
          refine BoolQ.mk rfl ?_ (by repeat' (first | exact SLe.wo _ _ | exact SLe.refl _ | refine SLe.fresh rfl ?_)) (by first | exact MLe.none _ | exact MLe.refl _ | (repeat' (first | exact MLe.nil | exact MLe.refl _ | refine MLe.cons _ ?_ | refine MLe.drop _ ?_)))
          clear hP hPR hUr hU hA hA2 hM hR hM2 hR2 hB hB2
          first | (simp_all; done) | grind
      intro c69 h69
      refine go_code ?_
      rcases bool_split h69 with ⟨rfl, g69⟩ | ⟨rfl, g69⟩
      · refine c_cond_f rfl ?_
        refine c_skip ?_
        refine go_code ?_
        refine ACode.perm (pick_perm (is := [5, 2, 2, 2, 0, 0]) rfl) ?_
        refine c_region ?_
        refine AOps.st 70 rfl rfl rfl (op_move rfl rfl ?_)
        refine AOps.st 71 rfl rfl rfl (op_move rfl rfl ?_)
        refine AOps.st 72 rfl rfl rfl (op_buildSlice (xs := [.tmp 71]) el_34 rfl rfl rfl rfl rfl rfl (Nat.le_of_ble_eq_true rfl) ?_)
        first | (refine AOps.st 73 rfl rfl rfl (op_append (i := 0) el_34 rfl rfl rfl rfl (.seq _ _) (by simp; omega) ?_)) | (refine AOps.st 73 rfl rfl rfl (op_append (i := 1) el_34 rfl rfl rfl rfl (.seq _ _) (by simp; omega) ?_)) | (refine AOps.st 73 rfl rfl rfl (op_append (i := 2) el_34 rfl rfl rfl rfl (.seq _ _) (by simp; omega) ?_)) | (refine AOps.st 73 rfl rfl rfl (op_append (i := 3) el_34 rfl rfl rfl rfl (.seq _ _) (by simp; omega) ?_)) | (refine AOps.st 73 rfl rfl rfl (op_append (i := 4) el_34 rfl rfl rfl rfl (.seq _ _) (by simp; omega) ?_)) | (refine AOps.st 73 rfl rfl rfl (op_append (i := 5) el_34 rfl rfl rfl rfl (.seq _ _) (by simp; omega) ?_)) | (refine AOps.st 73 rfl rfl rfl (op_append (i := 0) el_34 rfl rfl rfl rfl (.own _ _ _) (by simp; omega) ?_)) | (refine AOps.st 73 rfl rfl rfl (op_append (i := 1) el_34 rfl rfl rfl rfl (.own _ _ _) (by simp; omega) ?_)) | (refine AOps.st 73 rfl rfl rfl (op_append (i := 2) el_34 rfl rfl rfl rfl (.own _ _ _) (by simp; omega) ?_)) | (refine AOps.st 73 rfl rfl rfl (op_append (i := 3) el_34 rfl rfl rfl rfl (.own _ _ _) (by simp; omega) ?_)) | (refine AOps.st 73 rfl rfl rfl (op_append (i := 4) el_34 rfl rfl rfl rfl (.own _ _ _) (by simp; omega) ?_)) | (refine AOps.st 73 rfl rfl rfl (op_append (i := 5) el_34 rfl rfl rfl rfl (.own _ _ _) (by simp; omega) ?_)) | (refine AOps.st 73 rfl rfl rfl (op_append (i := 0) el_34 rfl rfl rfl rfl (.nil _) (by simp; omega) ?_)) | (refine AOps.st 73 rfl rfl rfl (op_append (i := 1) el_34 rfl rfl rfl rfl (.nil _) (by simp; omega) ?_)) | (refine AOps.st 73 rfl rfl rfl (op_append (i := 2) el_34 rfl rfl rfl rfl (.nil _) (by simp; omega) ?_)) | (refine AOps.st 73 rfl rfl rfl (op_append (i := 3) el_34 rfl rfl rfl rfl (.nil _) (by simp; omega) ?_)) | (refine AOps.st 73 rfl rfl rfl (op_append (i := 4) el_34 rfl rfl rfl rfl (.nil _) (by simp; omega) ?_)) | (refine AOps.st 73 rfl rfl rfl (op_append (i := 5) el_34 rfl rfl rfl rfl (.nil _) (by simp; omega) ?_)) | (refine AOps.st 73 rfl rfl rfl (op_append_nil el_34 rfl rfl rfl (.seq _ _) (by simp; omega) ?_)) | (refine AOps.st 73 rfl rfl rfl (op_append_nil el_34 rfl rfl rfl (.own _ _ _) (by simp; omega) ?_)) | (refine AOps.st 73 rfl rfl rfl (op_append_nil el_34 rfl rfl rfl (.nil _) (by simp; omega) ?_))
        intro u73
        refine AOps.st 13 rfl rfl rfl (op_assign rfl rfl ?_)
        refine AOps.nil ?_
        refine go_blk ?_
        refine go_code ?_
        refine c_region ?_
        first | (refine AOps.st 74 rfl rfl rfl (op_add rfl rfl rfl (IntWalk.i64_in _ (by omega)) ?_)) | (refine AOps.st 74 rfl rfl rfl (op_add rfl rfl rfl rfl ?_))
        refine AOps.st 35 rfl rfl rfl (op_move rfl rfl ?_)
        refine AOps.nil ?_
        refine go_lp ?_
        exact ⟨(k + 1, u73, t0, t1, t2, u0, u1, ws ++ [_], _), ⟨by show k + 1 ≤ _; omega, hM2, hR2, hB2, by simp [hwl]⟩, by show l.length - (k + 1) < l.length - k; omega, SLe.cons rfl (Le.refl _) (SLe.cons rfl (Le.own_eq (by rw [List.map_append]; rfl)) (by repeat' (first | exact SLe.nil _ | refine SLe.cons rfl ?_ ?_ | exact Le.refl _ | exact Le.own _ _ _ | exact Le.nil _))), (by first | exact MLe.none _ | exact MLe.refl _ | (repeat' (first | exact MLe.nil | exact MLe.refl _ | refine MLe.cons _ ?_ | refine MLe.drop _ ?_)))⟩
      · refine c_cond_t rfl ?_
        refine c_seq ?_
        exact g69.elim
  · refine c_cond_t rfl ?_
    refine c_seq ?_
    exact absurd rfl g29
end Go.Proofs.Ytecpnlhjjmcllaa
namespace Go.Proofs.Ytecpnlhjjmcllaa
open Go.RowKit
abbrev uptoBulk {H : Type} : DataW H → Nat := Rows.uptoBulk
abbrev uptoBulkAll {H : Type} : List (DataW H) → Nat := Rows.uptoBulkAll
mutual
def ShapeL (P : Program) (L : Nat) : Nat → TypeId → List AV → Prop
  | 0, _, _ => False
  | n + 1, t, cs => match P.underlying t with
    | some .bool => ∃ b, cs = [.val (.bool b)]
    | some (.int k) => ∃ x, (k.min ≤ x ∧ x ≤ k.max) ∧ cs = [.val (.int k x)]
    | some .string => ∃ s : ByteArray, s.size ≤ L ∧ cs = [.val (.string s)]
    | some (.slice e) => ∃ es, cs = [.seq (P.cellsOf e) es] ∧ es.length ≤ L ∧ ∀ x ∈ es, ShapeL P L n e x
    | some (.struct fs) => ShapeLF P L n fs.toList cs
    | _ => False
def ShapeLF (P : Program) (L : Nat) : Nat → List Field → List AV → Prop
  | _, [], cs => cs = []
  | n, f :: fs, cs => ∃ a b, cs = a ++ b ∧ ShapeL P L n f.type a ∧ ShapeLF P L n fs b
end
mutual
def AV.bulk : AV → Nat
  | .val (.string s) => s.size + 1
  | .seq _ es => bulkss es + 1
  | _ => 1
def bulks : List AV → Nat
  | [] => 0
  | a :: l => a.bulk + bulks l
def bulkss : List (List AV) → Nat
  | [] => 0
  | e :: es => bulks e + bulkss es
end
theorem bulks_app : ∀ a b : List AV, bulks (a ++ b) = bulks a + bulks b
  | [], b => by simp [bulks]
  | x :: a, b => by simp only [List.cons_append, bulks, bulks_app a b]; omega
theorem bulkss_app : ∀ a b : List (List AV), bulkss (a ++ b) = bulkss a + bulkss b
  | [], b => by simp [bulkss]
  | x :: a, b => by simp only [List.cons_append, bulkss, bulkss_app a b]; omega
theorem uptoBulkAll_app {H : Type} : ∀ a b : List (DataW H), uptoBulkAll (a ++ b) = uptoBulkAll a + uptoBulkAll b
  | [], b => by simp [uptoBulkAll, Rows.uptoBulkAll]
  | x :: a, b => by have := uptoBulkAll_app a b; simp only [uptoBulkAll] at this; simp only [List.cons_append, uptoBulkAll, Rows.uptoBulkAll, this]; omega
def closedL (P : Program) (S : List TypeId) : Bool := closedT P S && S.all fun t => match P.underlying t with
  | some (.slice e) => Nat.blt 0 (P.bytesOf e)
  | _ => true
section
variable {H : Type} {enc : TypeId × Value → H} {P : Program} {w : World} {sp : Nat → Bool} {held : Bool} {L : Nat}
theorem rows_of2 {fuel : Nat} {e : TypeId} {a : Addr} {m : Nat} {F : EH} (ds : List (DataW H)) : ∀ n : Nat, n ≤ ds.length → (∀ i d, i < n → ds[i]? = some d → ∃ (ws : List Value) (es : List AV), w.cells? 0 (a.add (i * m)) m = some ws ∧ ShapeL P L fuel e es ∧ Rels F es ws ∧ Ones ws ∧ bulks es ≤ uptoBulk d) →
    ∃ (ess : List (List AV)) (vs : List Value), ess.length = n ∧ (∀ x ∈ ess, ShapeL P L fuel e x ∧ x.length = m) ∧ Rels F ess.flatten vs ∧ Ones vs ∧ vs.length = n * m ∧ (∀ j x, vs[j]? = some x → w.cell? (a.add j) = some x) ∧ bulkss ess ≤ uptoBulkAll (ds.take n)
  | 0, _, _ => ⟨[], [], rfl, by simp, .nil, by intro v hv; simp at hv, by simp, by simp, by simp [bulkss]⟩
  | n + 1, hn, h => by
    obtain ⟨ess, vs, h1, h2, h3, h4, h5, h6, h7⟩ := rows_of2 ds n (by omega) (fun i d hi hd => h i d (by omega) hd)
    have hlt : n < ds.length := by omega
    obtain ⟨ws, es, k1, k2, k3, k4, k5⟩ := h n ds[n] (by omega) (List.getElem?_eq_getElem hlt)
    obtain ⟨q1, q2⟩ := cells_get k1
    refine ⟨ess ++ [es], vs ++ ws, by simp [h1], fun x hx => ?_, by simpa using h3.app k3, fun v hv => ?_, by simp only [List.length_append, h5, q1, Nat.add_mul]; omega, fun j x hx => ?_, ?_⟩
    · rcases List.mem_append.1 hx with r | r
      · exact h2 x r
      · simp at r; subst r; exact ⟨k2, by rw [k3.len, q1]⟩
    · rcases List.mem_append.1 hv with r | r
      · exact h4 v r
      · exact k4 v r
    · rcases Nat.lt_or_ge j vs.length with r | r
      · rw [List.getElem?_append_left r] at hx; exact h6 j x hx
      · rw [List.getElem?_append_right r] at hx
        have := q2 _ x hx
        have e1 : (a.add (n * m)).add (j - vs.length) = a.add j := by
          rw [h5] at r ⊢
          unfold Addr.add
          by_cases z1 : n * m = 0
          · rw [if_pos z1]
            simp only [z1, Nat.sub_zero]
          · rw [if_neg z1]
            have hj0 : j ≠ 0 := by omega
            rw [if_neg hj0]
            by_cases z2 : j - n * m = 0
            · rw [if_pos z2]
              simp only [Addr.mk.injEq, true_and, and_true]
              omega
            · rw [if_neg z2]
              simp only [Addr.mk.injEq, true_and, and_true]
              omega
        rwa [e1] at this
    · rw [bulkss_app, List.take_add_one, List.getElem?_eq_getElem hlt, uptoBulkAll_app]
      simp only [bulkss, Option.toList, uptoBulkAll, Rows.uptoBulkAll]
      simp only [uptoBulk, uptoBulkAll] at *
      omega
theorem weights_all {e : TypeId} : ∀ {ds : List (DataW H)} {i : Nat} {d : DataW H}, ds[i]? = some d → ∀ n ∈ d.weights P e, n ∈ DataW.weightsAll P e ds
  | [], i, d, h, _, _ => by simp at h
  | x :: ds, 0, d, h, n, hn => by
    simp at h; subst h
    simp only [DataW.weightsAll, List.mem_append]; exact .inl hn
  | x :: ds, i + 1, d, h, n, hn => by
    simp only [DataW.weightsAll, List.mem_append]; exact .inr (weights_all (by simpa using h) n hn)
theorem open_shape2 {S : List TypeId} (hS : closedL P S = true) (hL : L ≤ maxLen) : ∀ (fuel : Nat) (t : TypeId) (vs : List Value) (x : DataW H × List MemPlace), t ∈ S → DataW.trod enc P w 0 sp held fuel t vs = some x → (∀ n ∈ x.1.weights P t, n ≤ L) →
    ∃ cs, ShapeL P L fuel t cs ∧ Rels (cellF w) cs vs ∧ Ones vs ∧ bulks cs ≤ uptoBulk x.1 := by
  have hS1 : closedT P S = true := by unfold closedL at hS; exact (Bool.and_eq_true_iff.1 hS).1
  have hS2 := by unfold closedL at hS; exact (Bool.and_eq_true_iff.1 hS).2
  intro fuel
  induction fuel with
  | zero => intro t vs x _ h; simp [DataW.trod] at h
  | succ n ih =>
    intro t vs x ht h hw
    have hc := List.all_eq_true.1 hS1 t ht
    have hc2 := List.all_eq_true.1 hS2 t ht
    have hh := h
    unfold DataW.trod at h
    unfold ShapeL
    cases hu : P.underlying t with
    | none => rw [hu] at hc; simp at hc
    | some d =>
      rw [hu] at hc hc2 h
      cases d with
      | bool =>
        simp only at h
        split at h <;> first | (simp at h; done) | skip
        all_goals first | (rename_i b _; simp at h; subst h; exact ⟨[.val (.bool b)], ⟨b, rfl⟩, .cons (.val _) .nil, by intro v hv; simp at hv; subst hv; rfl, by simp [bulks, AV.bulk, uptoBulk, Rows.uptoBulk]⟩) | (simp_all; done)
      | int k =>
        simp only at h
        split at h <;> simp_all
        rename_i k' z _
        obtain ⟨⟨rfl, hwf⟩, rfl⟩ := h
        simp only [Lit.wf, Bool.and_eq_true, decide_eq_true_eq] at hwf
        exact ⟨_, ⟨z, hwf, rfl⟩, .cons (.val _) .nil, by intro v hv; simp at hv; subst hv; rfl, by simp [bulks, AV.bulk, uptoBulk, Rows.uptoBulk]⟩
      | string =>
        simp only at h
        split at h <;> simp_all
        obtain ⟨_, rfl⟩ := h
        rename_i s _
        have hsz : s.data.toList.length ≤ L := hw _ (by simp [DataW.weights])
        exact ⟨_, ⟨_, by simpa using hsz, rfl⟩, .cons (.val _) .nil, by intro v hv; simp at hv; subst hv; rfl, by simp [bulks, AV.bulk, uptoBulk, Rows.uptoBulk]⟩
      | slice e =>
        simp only [Bool.and_eq_true, List.contains_iff_mem, Nat.blt_eq] at hc hc2
        rcases DataW.trod_slice hu hh with ⟨rfl, rfl⟩ | ⟨a, len, cap, elems, rest, n', hn, rfl, rfl, _, hlc, hcm, hel, hat, _⟩
        · exact ⟨[.seq (P.cellsOf e) []], ⟨[], rfl, by simp, by simp⟩, .cons (.seq0 _ none 0 (fun _ => rfl)) .nil, by intro v hv; simp at hv; subst hv; rfl, by simp [bulks, AV.bulk, bulkss, uptoBulk, Rows.uptoBulk]⟩
        · obtain rfl : n = n' := by omega
          have hlenL : len ≤ L := by
            have h1 := hw ((elems.length + rest.length) * P.bytesOf e) (by simp [DataW.weights, hu])
            have h2 : len * 1 ≤ (elems.length + rest.length) * P.bytesOf e := Nat.mul_le_mul (by omega) hc2
            omega
          have hrows : ∀ i d, i < len → (elems.map (·.1))[i]? = some d → ∃ ws es, w.cells? 0 (a.add (i * P.cellsOf e)) (P.cellsOf e) = some ws ∧ ShapeL P L n e es ∧ Rels (cellF w) es ws ∧ Ones ws ∧ bulks es ≤ uptoBulk d := by
            intro i d hi hd
            have h1 := hat i hi
            rw [List.getElem?_eq_getElem (by omega)] at h1
            obtain ⟨ws, h2, h3⟩ := Option.bind_eq_some_iff.1 h1
            have hdd : (elems[i]'(by omega)).1 = d := by
              rw [List.getElem?_map, List.getElem?_eq_getElem (by omega)] at hd
              simpa using hd
            obtain ⟨es, h4, h5, h6, h7⟩ := ih e ws _ hc.1 h3 (by
              intro k hk
              rw [hdd] at hk
              refine hw k ?_
              simp only [DataW.weights, hu, List.mem_cons, List.mem_append]
              exact .inr (.inl (weights_all hd k hk)))
            exact ⟨ws, es, h2, h4, h5, h6, by rw [hdd] at h7; exact h7⟩
          obtain ⟨ess, vs', r1, r2, r3, r4, r5, r6, r7⟩ := rows_of2 (elems.map (·.1)) len (by simp; omega) hrows
          have hb : bulks [AV.seq (P.cellsOf e) ess] ≤ uptoBulk (DataW.slice (elems.map (·.1)) (rest.map (·.1))) := by
            rw [List.take_of_length_le (by simp; omega)] at r7
            simp only [bulks, AV.bulk, uptoBulk, uptoBulkAll, Rows.uptoBulk] at *
            omega
          refine ⟨[.seq (P.cellsOf e) ess], ⟨ess, rfl, by omega, fun x hx => (r2 x hx).1⟩, .cons ?_ .nil, by intro v hv; simp at hv; subst hv; rfl, hb⟩
          by_cases h0 : len = 0
          · subst h0
            have : ess = [] := List.eq_nil_of_length_eq_zero r1
            subst this
            exact .seq0 _ _ _ (by simp)
          · have hpos : 0 < vs'.length := by rw [r5]; exact Nat.mul_pos (by omega) hc.2
            have hsp : a.spot = none := by
              have := r6 0 vs'[0] (List.getElem?_eq_getElem hpos)
              have e0 : a.add 0 = a := by simp [Addr.add]
              rw [e0] at this
              unfold World.cell? at this
              cases hs : a.spot with
              | none => rfl
              | some q => rw [hs] at this; simp at this; split at this <;> simp at this
            obtain ⟨b, off, spot⟩ := a
            simp only at hsp
            subst hsp
            subst r1
            refine .seq b off cap (fun x hx => (r2 x hx).2) (by omega) (fun j x hx => ?_) r3 r4 (by omega)
            have := r6 j x hx
            rwa [addr_add0] at this
      | struct fs =>
        simp only at hc
        obtain ⟨xs, n', hn, rfl, hlen, hxl, hat⟩ := DataW.trod_struct hu hh
        obtain rfl : n = n' := by omega
        have key : ∀ (l : List Field) (ys : List (DataW H × List MemPlace)) (k : Nat), ys.length = l.length → (∀ (i : Nat) (f : Field), l[i]? = some f → DataW.trod enc P w 0 sp held n f.type ((vs.drop f.offset).take (P.cellsOf f.type)) = ys[i]?) → fsOk P S k l (P.cellsOf t) = true → (∀ j ∈ DataW.weightsEach P (l.map (·.type)) (ys.map (·.1)), j ≤ L) →
            ∃ cs, ShapeLF P L n l cs ∧ Rels (cellF w) cs (vs.drop k) ∧ Ones (vs.drop k) ∧ bulks cs ≤ uptoBulkAll (ys.map (·.1)) := by
          intro l
          induction l with
          | nil =>
            intro ys k _ _ hk _
            simp only [fsOk, beq_iff_eq] at hk
            refine ⟨[], by simp [ShapeLF], ?_, ?_, by simp [bulks]⟩
            · rw [List.drop_eq_nil_of_le (by omega)]; exact .nil
            · rw [List.drop_eq_nil_of_le (by omega)]; intro v hv; simp at hv
          | cons f l ihl =>
            intro ys k hyl hf hk hwt
            cases ys with
            | nil => simp at hyl
            | cons y ys =>
              simp only [fsOk, Bool.and_eq_true, beq_iff_eq, List.contains_iff_mem] at hk
              obtain ⟨⟨rfl, hS1⟩, hk⟩ := hk
              have hy := hf 0 f (by simp)
              simp only [List.getElem?_cons_zero] at hy
              simp only [List.map_cons, DataW.weightsEach, List.mem_append] at hwt
              obtain ⟨c1, h1, h2, h3, h7⟩ := ih f.type _ y hS1 hy (fun j hj => hwt j (.inl hj))
              obtain ⟨c2, h4, h5, h6, h8⟩ := ihl ys (f.offset + P.cellsOf f.type) (by simpa using hyl) (fun i g hg => by have := hf (i + 1) g (by simpa using hg); simpa using this) hk (fun j hj => hwt j (.inr hj))
              have e1 : vs.drop f.offset = (vs.drop f.offset).take (P.cellsOf f.type) ++ vs.drop (f.offset + P.cellsOf f.type) := by
                rw [← List.drop_drop, List.take_append_drop]
              refine ⟨c1 ++ c2, by rw [ShapeLF]; exact ⟨c1, c2, rfl, h1, h4⟩, by rw [e1]; exact h2.app h5, ?_, ?_⟩
              · rw [e1]
                intro v hv
                rcases List.mem_append.1 hv with q | q
                · exact h3 v q
                · exact h6 v q
              · rw [bulks_app]
                simp only [List.map_cons, uptoBulkAll, uptoBulk, Rows.uptoBulkAll] at *
                omega
        obtain ⟨cs, k1, k2, k3, k4⟩ := key fs.toList xs 0 (by simpa using hxl) (fun i f hf => hat i f (by simpa using hf)) hc (by
          intro j hj
          refine hw j ?_
          simp only [DataW.weights, hu]
          exact hj)
        rw [List.drop_zero] at k2 k3
        exact ⟨cs, k1, k2, k3, by simp only [uptoBulk, uptoBulkAll, Rows.uptoBulk] at *; omega⟩
      | _ => simp at hc
/-- one argument of a row, with its bounds -/
theorem open_two {S : List TypeId} (hS : closedL P S = true) {ts : List TypeId} {ds : List (DataW H)} (hsz : (DataW.weightsEach P ts ds).all (· ≤ reachBytes) = true) (j : Nat) {t : TypeId} {v : Value} {d : DataW H} {ps : List MemPlace} (hj : ts[j]? = some t) (hd : ds[j]? = some d) (ht : t ∈ S) (h : DataW.Trod enc P w 0 sp held t v d ps) :
    ∃ fuel cs, ShapeL P reachBytes fuel t cs ∧ Rels (cellF w) cs v.cells.toList ∧ Ones v.cells.toList ∧ bulks cs ≤ uptoBulk d := by
  obtain ⟨fuel, h⟩ := h
  obtain ⟨cs, h1, h2, h3, h4⟩ := open_shape2 hS (L := reachBytes) (by decide) fuel t _ _ ht h (fun n hn => by
    have := List.all_eq_true.1 hsz n (DataW.weights_mem_each hj hd n hn)
    simpa using this)
  exact ⟨fuel, cs, h1, h2, h3, h4⟩
end
section
variable {P : Program} {L : Nat}
theorem shapeL_int {fuel : Nat} {t : TypeId} {k : IntKind} {cs : List AV} (ht : P.underlying t = some (.int k)) (h : ShapeL P L fuel t cs) : ∃ x, (k.min ≤ x ∧ x ≤ k.max) ∧ cs = [.val (.int k x)] := by
  cases fuel with
  | zero => unfold ShapeL at h; exact h.elim
  | succ n => unfold ShapeL at h; rw [ht] at h; exact h
theorem shapeL_str {fuel : Nat} {t : TypeId} {cs : List AV} (ht : P.underlying t = some .string) (h : ShapeL P L fuel t cs) : ∃ s : ByteArray, s.size ≤ L ∧ cs = [.val (.string s)] := by
  cases fuel with
  | zero => unfold ShapeL at h; exact h.elim
  | succ n => unfold ShapeL at h; rw [ht] at h; exact h
theorem shapeL_bool {fuel : Nat} {t : TypeId} {cs : List AV} (ht : P.underlying t = some .bool) (h : ShapeL P L fuel t cs) : ∃ b, cs = [.val (.bool b)] := by
  cases fuel with
  | zero => unfold ShapeL at h; exact h.elim
  | succ n => unfold ShapeL at h; rw [ht] at h; exact h
theorem shapeL_slice {fuel : Nat} {t e : TypeId} {cs : List AV} (ht : P.underlying t = some (.slice e)) (h : ShapeL P L fuel t cs) : ∃ n es, n < fuel ∧ cs = [.seq (P.cellsOf e) es] ∧ es.length ≤ L ∧ ∀ x ∈ es, ShapeL P L n e x := by
  cases fuel with
  | zero => unfold ShapeL at h; exact h.elim
  | succ n =>
    unfold ShapeL at h
    rw [ht] at h
    obtain ⟨es, h1, h3, h2⟩ := h
    exact ⟨n, es, by omega, h1, h3, h2⟩
theorem shapeL_struct {fuel : Nat} {t : TypeId} {fs : Array Field} {cs : List AV} (ht : P.underlying t = some (.struct fs)) (h : ShapeL P L fuel t cs) : ∃ n, n < fuel ∧ ShapeLF P L n fs.toList cs := by
  cases fuel with
  | zero => unfold ShapeL at h; exact h.elim
  | succ n => unfold ShapeL at h; rw [ht] at h; exact ⟨n, by omega, h⟩
/-- a row of elements that are all of a kind, each with a fact -/
theorem pick_all2 {α : Type} {f : α → List AV} {p : α → Prop} : ∀ {es : List (List AV)}, (∀ x ∈ es, ∃ a, x = f a ∧ p a) → ∃ l : List α, es = l.map f ∧ ∀ a ∈ l, p a
  | [], _ => ⟨[], rfl, by simp⟩
  | e :: es, h => by
    obtain ⟨a, ha, hp⟩ := h e (by simp)
    obtain ⟨l, hl, hq⟩ := pick_all2 (fun x hx => h x (by simp [hx]) : ∀ x ∈ es, ∃ a, x = f a ∧ p a)
    exact ⟨a :: l, by rw [ha, hl]; rfl, by simp; exact ⟨hp, hq⟩⟩
end
end Go.Proofs.Ytecpnlhjjmcllaa
namespace Go.Proofs.Ytecpnlhjjmcllaa
open Go.RowKit
theorem okw_slice {P : Program} {W : World} {r : Reach} {b : Nat} {t e : TypeId} {v : Value} (ht : P.underlying t = some (.slice e)) (h : Value.okWide P W r b t v) : ∀ a, v ≠ .agg a := by
  rintro a rfl
  unfold Value.okWide at h
  rw [ht] at h
  simp only [Cell.okWide, Cell.ok, ht] at h
theorem okw_str {P : Program} {W : World} {r : Reach} {b : Nat} {t : TypeId} {v : Value} (ht : P.underlying t = some .string) (h : Value.okWide P W r b t v) : ∀ a, v ≠ .agg a := by
  rintro a rfl
  unfold Value.okWide at h
  rw [ht] at h
  simp only [Cell.okWide, Cell.ok, ht] at h
end Go.Proofs.Ytecpnlhjjmcllaa
namespace Go.Proofs.Ytecpnlhjjmcllaa
open Go.RowKit
theorem cellsOf_s2 : Try.prog.cellsOf 9 = 1 := by kernel_rfl
theorem cellsOf_r : Try.prog.cellsOf 100 = 3 := by kernel_rfl
theorem cellsOf_u : Try.prog.cellsOf 42 = 1 := by kernel_rfl
theorem shapeL_sls {fuel : Nat} {cs : List AV} (h : ShapeL Try.prog reachBytes fuel 57 cs) : ∃ l : List ByteArray, cs = [.seq 1 (sls l)] ∧ ∀ s ∈ l, s.size ≤ reachBytes := by
  obtain ⟨n, es, _, rfl, _, h⟩ := shapeL_slice tu_57 h
  have key : ∀ es : List (List AV), (∀ x ∈ es, ShapeL Try.prog reachBytes n 9 x) → ∃ l : List ByteArray, es = sls l ∧ ∀ s ∈ l, s.size ≤ reachBytes := by
    intro es
    induction es with
    | nil => exact fun _ => ⟨[], rfl, by simp⟩
    | cons e es ih =>
      intro h
      obtain ⟨s, hs, rfl⟩ := shapeL_str tu_9 (h e (by simp))
      obtain ⟨l, rfl, hl⟩ := ih (fun x hx => h x (by simp [hx]))
      exact ⟨s :: l, rfl, by simp; exact ⟨hs, hl⟩⟩
  obtain ⟨l, rfl, hl⟩ := key es h
  exact ⟨l, by rw [cellsOf_s2], hl⟩
theorem shapeL_ivs {fuel : Nat} {cs : List AV} (h : ShapeL Try.prog reachBytes fuel 34 cs) : ∃ l : List Int, cs = [.seq 1 (l.map iv)] ∧ l.length ≤ reachBytes ∧ ∀ y ∈ l, 0 ≤ y ∧ y ≤ 18446744073709551615 := by
  obtain ⟨n, es, _, rfl, hle, h⟩ := shapeL_slice tu_34 h
  have key : ∀ es : List (List AV), (∀ x ∈ es, ShapeL Try.prog reachBytes n 42 x) → ∃ l : List Int, es = l.map iv ∧ ∀ y ∈ l, 0 ≤ y ∧ y ≤ 18446744073709551615 := by
    intro es
    induction es with
    | nil => exact fun _ => ⟨[], rfl, by simp⟩
    | cons e es ih =>
      intro h
      obtain ⟨s, hs, rfl⟩ := shapeL_int tu_42 (h e (by simp))
      obtain ⟨l, rfl, hl⟩ := ih (fun x hx => h x (by simp [hx]))
      have e1 : IntKind.u64.min = 0 := by decide
      have e2 : IntKind.u64.max = 18446744073709551615 := by decide
      rw [e1, e2] at hs
      exact ⟨s :: l, rfl, by simp; exact ⟨hs, hl⟩⟩
  obtain ⟨l, rfl, hl⟩ := key es h
  exact ⟨l, by rw [cellsOf_u], by simpa using hle, hl⟩
theorem shapeL_rw {fuel : Nat} {cs : List AV} (h : ShapeL Try.prog reachBytes fuel 100 cs) : ∃ x : Rw, cs = x.cells ∧ x.ps.length ≤ reachBytes ∧ x.Lim := by
  obtain ⟨n, _, h⟩ := shapeL_struct Try.underlying100 h
  simp only [ShapeLF] at h
  obtain ⟨a0, b0, rfl, h0, a1, b1, rfl, h1, a2, b2, rfl, h2, rfl⟩ := h
  obtain ⟨kd, q0, rfl⟩ := shapeL_int tu_3 h0
  obtain ⟨tg, q1, rfl⟩ := shapeL_int tu_3 h1
  obtain ⟨ps, rfl, q2, q3⟩ := shapeL_ivs h2
  have e1 : IntKind.i64.min = -9223372036854775808 := by decide
  have e2 : IntKind.i64.max = 9223372036854775807 := by decide
  rw [e1, e2] at q0 q1
  exact ⟨⟨kd, tg, ps⟩, by simp [Rw.cells], q2, q0.1, q0.2, q1.1, q1.2, q3⟩
theorem shapeL_rws {fuel : Nat} {cs : List AV} (h : ShapeL Try.prog reachBytes fuel 58 cs) : ∃ r : List Rw, cs = [.seq 3 (rws r)] ∧ (∀ x ∈ r, x.ps.length ≤ reachBytes) ∧ ∀ x ∈ r, x.Lim := by
  obtain ⟨n, es, _, rfl, _, h⟩ := shapeL_slice tu_58 h
  have key : ∀ es : List (List AV), (∀ x ∈ es, ShapeL Try.prog reachBytes n 100 x) → ∃ r : List Rw, es = rws r ∧ (∀ x ∈ r, x.ps.length ≤ reachBytes) ∧ ∀ x ∈ r, x.Lim := by
    intro es
    induction es with
    | nil => exact fun _ => ⟨[], rfl, by simp, by simp⟩
    | cons e es ih =>
      intro h
      obtain ⟨s, rfl, h1, h2⟩ := shapeL_rw (h e (by simp))
      obtain ⟨l, rfl, hl, hm⟩ := ih (fun x hx => h x (by simp [hx]))
      refine ⟨s :: l, rfl, ?_, ?_⟩
      · intro x hx
        rcases List.mem_cons.1 hx with rfl | hx
        · exact h1
        · exact hl x hx
      · intro x hx
        rcases List.mem_cons.1 hx with rfl | hx
        · exact h2
        · exact hm x hx
  obtain ⟨l, rfl, hl, hm⟩ := key es h
  exact ⟨l, by rw [cellsOf_r], hl, hm⟩
abbrev SSR : List TypeId := [3, 42, 34, 9, 57, 100, 58]
theorem closedR : closedL Try.prog SSR = true := by kernel_rfl
theorem tot_mem {l : List ByteArray} {s : ByteArray} (h : s ∈ l) : s.size ≤ tot l := by
  induction l with
  | nil => simp at h
  | cons x l ih =>
    simp only [tot, List.map_cons, List.sum_cons] at ih ⊢
    rcases List.mem_cons.1 h with rfl | h
    · omega
    · have := ih h; omega
theorem totR_mem {l : List Rw} {s : Rw} (h : s ∈ l) : s.ps.length ≤ totR l := by
  induction l with
  | nil => simp at h
  | cons x l ih =>
    simp only [totR, List.map_cons, List.sum_cons] at ih ⊢
    rcases List.mem_cons.1 h with rfl | h
    · omega
    · have := ih h; omega
end Go.Proofs.Ytecpnlhjjmcllaa
namespace Go.Proofs.Ytecpnlhjjmcllaa
open Go.ChangeShapes Go.WideShapes Go.ChangeAt Go.RowKit
section
variable {H : Type} {enc : TypeId × Value → H} {P : Program}
theorem trodAll_below (hl : laidOutB P = true) {W W' : World} (hb : Below W.heap.size W W') :
    ∀ {ts : List TypeId} {vs : List Value} {ds : List (DataW H)} {ps : List MemPlace},
      (∀ t ∈ ts, P.readableRec t = true ∧ t < P.types.size) → DataW.TrodAll enc P W 0 (fun _ => true) true ts vs ds ps →
      (∀ x ∈ ps, x.block < W.heap.size) → DataW.TrodAll enc P W' 0 (fun b => decide (b < W.heap.size)) true ts vs ds ps
  | [], _, _, _, _, h, _ => by
    obtain ⟨rfl, rfl, rfl⟩ := trodAll_nil h
    exact trodAll_mk0
  | t :: ts, _, _, _, hr, h, hlt => by
    obtain ⟨v, vs, d, ds, p, q, rfl, rfl, rfl, h0, h1⟩ := trodAll_cons h
    exact trodAll_cons_mk (Below.trod hl (hr t (by simp)).1 (hr t (by simp)).2 h0 hb (fun x hx => hlt x (by simp [hx])))
      (trodAll_below hl hb (fun t ht => hr t (by simp [ht])) h1 (fun x hx => hlt x (by simp [hx])))
theorem law_post {f : Func} {s : ChangeSpec} {W W' : World} {args : Array Value} {ds gs : List (DataW H)} {before : List MemPlace} {tb : TypeId}
    (hl : laidOutB P = true) (hr : (f.params.toList.all fun t => P.readableRec t && decide (t < P.types.size)) = true)
    (hres : f.resultTypes = #[tb]) (htb : P.underlying tb = some .bool) (hvars : s.vars = [])
    (hs1 : (s.fn H (ds ++ gs)).results = [.lit (.bool true)]) (hs2 : (s.fn H (ds ++ gs)).args = ds) (hs3 : (s.fn H (ds ++ gs)).vars = [])
    (hW : DataW.Whole enc P f.params.toList s.vars false W args.toList ds gs before) (hb : Below W.heap.size W W') :
    s.post enc P f false true false false W args (.bool true) W' := by
  have hW' := hW
  obtain ⟨p, q, hA, hV, rfl, hfz, hnd⟩ := hW
  have hr' : ∀ t ∈ f.params.toList, P.readableRec t = true ∧ t < P.types.size := by
    intro t ht
    have := List.all_eq_true.1 hr t ht
    simpa using this
  refine ⟨ds, gs, p ++ q, [], p, [], hW', ?_, ?_, ?_, hb.frame _, fun h => by cases h⟩
  · rw [hs1, hres]
    exact trodAll_mk1 (shut_bool htb true)
  · rw [hs2]
    exact trodAll_below hl hb hr' hA (fun x hx => by simpa using hW'.lt x (by simp [hx]))
  · rw [hs3, hvars]
    rfl
end
end Go.Proofs.Ytecpnlhjjmcllaa
namespace Go.Proofs.Ytecpnlhjjmcllaa
open Go.ChangeShapes Go.WideShapes Go.ChangeAt Go.RowKit
theorem CatR.step {sz : Int} {H H' : List HO} {ws : List Int} {x y w : Int} {ok : Bool} (h : Both sz H ws) (hr : CatR sz H x y ok w H') : Both sz H' ws ∧ (ok = true ↔ w ≠ 0) := by
  rcases hr with ⟨_, hr⟩ | ⟨_, rfl, rfl, rfl⟩
  · obtain ⟨h1, h2⟩ := h.step hr (txt_bounds _)
    exact ⟨⟨h1.ok, h1.fit, h1.len, h.wsb⟩, h2⟩
  · exact ⟨h, by simp⟩
set_option maxHeartbeats 4000000 in
set_option maxRecDepth 100000 in
theorem StrsTwo_c (l : List ByteArray) (r : List Rw) (n : Int) (hl : ∀ s ∈ l, s.size ≤ reachBytes) (hr : ∀ x ∈ r, x.ps.length ≤ reachBytes) (hrb : ∀ x ∈ r, x.Lim) (hn : -9223372036854775808 ≤ n ∧ n ≤ 9223372036854775807) : ACall Try.prog 7 [.seq 1 (sls l), .seq 3 (rws r), .val (.int .i64 n)] [] (fun v _ => v = .val (.bool true)) := by
  have hS := small32_c l r hl hr
  have hB := fun (q : Small32 l r) (k1 : 1 ≤ n) (k2 : n ≤ 5000) => both_c l r n k1 (by omega) (fun s hs => by have := tot_mem hs; unfold Small32 at q; omega) (fun x hx => by have := totR_mem hx; unfold Small32 at q; omega) q.2.1 q.2.2 hrb
  have hll : Small32 l r → l.length ≤ 20 ∧ r.length ≤ 10 := fun q => q.2
  generalize Small32 l r = pS at *
  refine ACall.enter Try.func7 rfl (by kernel_rfl) rfl (Nat.le_of_ble_eq_true rfl) ?_
  refine c_start ?_
  refine c_seq ?_
  refine c_region ?_
  refine AOps.st 6 rfl rfl rfl (op_assign rfl rfl ?_)
  refine AOps.nil ?_
  refine go_code ?_
  refine c_seq ?_
  refine c_seq ?_
  refine c_region ?_
  refine AOps.st 24 rfl rfl rfl (op_callp (xs := []) rfl rfl (awake32_c) (by first | exact Les.refl _ | (repeat' (first | exact Les.refl _ | refine Les.cons ?_ ?_ | exact Le.refl _ | exact Le.own _ _ _ | exact Le.nil _ | refine Le.agg ?_))) ?_)
  refine AOps.st 25 rfl rfl rfl (op_notc rfl rfl ?_); intro c25 h25
  try replace h25 := nott h25 h24
  refine AOps.nil ?_
  refine go_code ?_
  rcases bool_split h25 with ⟨rfl, g25⟩ | ⟨rfl, g25⟩
  · refine c_cond_f rfl ?_
    refine c_skip ?_
    refine go_code ?_
    refine c_seq ?_
    refine c_seq ?_
    refine c_bool 37 (¬ (pS ∧ 1 ≤ n ∧ n ≤ 5000)) ?_ _ _ rfl ?_
    · skip
      refine AOps.st 26 rfl rfl rfl (op_move rfl rfl ?_)
      refine AOps.st 27 rfl rfl rfl (op_move rfl rfl ?_)
      refine AOps.st 28 rfl rfl rfl (op_callb (xs := [.tmp 26, .tmp 27]) rfl rfl (hS) (by first | exact Les.refl _ | (repeat' (first | exact Les.refl _ | refine Les.cons ?_ ?_ | exact Le.refl _ | exact Le.own _ _ _ | exact Le.nil _ | refine Le.agg ?_))) ?_); intro c28 h28
      refine AOps.st 29 rfl rfl rfl (op_notc rfl rfl ?_); intro c29 h29
      try replace h29 := nott h29 h28
      refine AOps.st 30 rfl rfl rfl (op_move rfl rfl ?_)
      rcases bool_split h29 with ⟨rfl, g29⟩ | ⟨rfl, g29⟩
      · skip
        refine AOps.gt 31 rfl rfl rfl rfl rfl (op_move rfl rfl ?_)
        refine AOps.gt 32 rfl rfl rfl rfl rfl (op_lss rfl rfl rfl ?_); intro c32 h32
        refine AOps.st 33 rfl rfl rfl (op_pick rfl rfl rfl ?_)
        refine AOps.st 34 rfl rfl rfl (op_move rfl rfl ?_)
        rcases bool_split h32 with ⟨rfl, g32⟩ | ⟨rfl, g32⟩
        · skip
          refine AOps.gt 35 rfl rfl rfl rfl rfl (op_move rfl rfl ?_)
          refine AOps.gt 36 rfl rfl rfl rfl rfl (op_gtr rfl rfl rfl ?_); intro c36 h36
          refine AOps.st 37 rfl rfl rfl (op_pick rfl rfl rfl ?_)
          refine AOps.nil ?_
          refine BoolQ.mk rfl ?_ (by repeat' (first | exact SLe.wo _ _ | exact SLe.refl _ | refine SLe.fresh rfl ?_)) (by first | exact MLe.none _ | exact MLe.refl _ | (repeat' (first | exact MLe.nil | exact MLe.refl _ | refine MLe.cons _ ?_ | refine MLe.drop _ ?_)))
          clear hB hS
          first | (simp_all; done) | grind
        · skip
          refine AOps.gf 35 rfl rfl rfl rfl rfl ?_
          refine AOps.gf 36 rfl rfl rfl rfl rfl ?_
          refine AOps.st 37 rfl rfl rfl (op_pick rfl rfl rfl ?_)
          refine AOps.nil ?_
          refine BoolQ.mk rfl ?_ (by repeat' (first | exact SLe.wo _ _ | exact SLe.refl _ | refine SLe.fresh rfl ?_)) (by first | exact MLe.none _ | exact MLe.refl _ | (repeat' (first | exact MLe.nil | exact MLe.refl _ | refine MLe.cons _ ?_ | refine MLe.drop _ ?_)))
          clear hB hS
          first | (simp_all; done) | grind
      · skip
        refine AOps.gf 31 rfl rfl rfl rfl rfl ?_
        refine AOps.gf 32 rfl rfl rfl rfl rfl ?_
        refine AOps.st 33 rfl rfl rfl (op_pick rfl rfl rfl ?_)
        refine AOps.st 34 rfl rfl rfl (op_move rfl rfl ?_)
        refine AOps.gf 35 rfl rfl rfl rfl rfl ?_
        refine AOps.gf 36 rfl rfl rfl rfl rfl ?_
        refine AOps.st 37 rfl rfl rfl (op_pick rfl rfl rfl ?_)
        refine AOps.nil ?_
        refine BoolQ.mk rfl ?_ (by repeat' (first | exact SLe.wo _ _ | exact SLe.refl _ | refine SLe.fresh rfl ?_)) (by first | exact MLe.none _ | exact MLe.refl _ | (repeat' (first | exact MLe.nil | exact MLe.refl _ | refine MLe.cons _ ?_ | refine MLe.drop _ ?_)))
        clear hB hS
        first | (simp_all; done) | grind
    intro c37 h37
    refine go_code ?_
    rcases bool_split h37 with ⟨rfl, g37⟩ | ⟨rfl, g37⟩
    · refine c_cond_f rfl ?_
      refine c_skip ?_
      refine go_code ?_
      refine c_seq ?_
      have hq := Classical.not_not.1 g37
      have hB := hB hq.1 hq.2.1 hq.2.2
      have hll := hll hq.1
      obtain ⟨_, hn1, hn2⟩ := hq
      refine c_region ?_
      refine AOps.st 39 rfl rfl rfl (op_move rfl rfl ?_)
      refine AOps.st 40 rfl rfl rfl (op_move rfl rfl ?_)
      refine AOps.st 41 rfl rfl rfl (op_move rfl rfl ?_)
      refine AOps.st 42 rfl rfl rfl (op_callat [] (xs := [.tmp 39, .tmp 40, .tmp 41]) rfl rfl rfl (hB) (by first | exact Les.refl _ | (repeat' (first | exact Les.refl _ | refine Les.cons ?_ ?_ | exact Le.refl _ | exact Le.own _ _ _ | exact Le.nil _ | refine Le.agg ?_))) ?_)
      rintro v1 M1 ⟨b, br, q0, q1, q2, p0, p1, u, ws, H0, rfl, rfl, hM0, hR0, hBo0, hwl⟩
      refine AOps.st 38 rfl rfl rfl (op_move rfl rfl ?_)
      refine AOps.st 43 rfl rfl rfl (op_extract rfl rfl rfl ?_)
      refine AOps.st 44 rfl rfl rfl (op_extract rfl rfl rfl ?_)
      refine AOps.st 45 rfl rfl rfl (op_extract rfl rfl rfl ?_)
      refine AOps.st 46 rfl rfl rfl (op_extract rfl rfl rfl ?_)
      refine AOps.st 7 rfl rfl rfl (op_assign rfl rfl ?_)
      refine AOps.st 8 rfl rfl rfl (op_assign rfl rfl ?_)
      refine AOps.st 9 rfl rfl rfl (op_assign rfl rfl ?_)
      refine AOps.st 10 rfl rfl rfl (op_assign rfl rfl ?_)
      refine AOps.nil ?_
      refine go_code ?_
      refine c_seq ?_
      refine c_seq ?_
      refine c_region ?_
      refine AOps.st 47 rfl rfl rfl (op_move rfl rfl ?_)
      refine AOps.st 48 rfl rfl rfl (op_notc rfl rfl ?_); intro c48 h48
      try replace h48 := nott h48 h46
      refine AOps.nil ?_
      refine go_code ?_
      rcases bool_split h48 with ⟨rfl, g48⟩ | ⟨rfl, g48⟩
      · refine c_cond_f rfl ?_
        refine c_skip ?_
        refine go_code ?_
        refine c_seq ?_
        refine c_seq ?_
        have hwn : ((ws.map iv)).length = ws.length := by simp
        refine c_le (al' := [(7, .ptr b 0), (8, .ptr br 0), (9, .seq 1 (ws.map iv))]) (by repeat' (first | exact SLe.nil _ | refine SLe.cons rfl ?_ ?_ | exact Le.refl _ | exact Le.own _ _ _ | exact Le.nil _)) (MLe.refl _) ?_
        refine c_region ?_
        refine AOps.st 49 rfl rfl rfl (op_move rfl rfl ?_)
        first | (refine AOps.st 50 rfl rfl rfl (op_len rfl tu_34 rfl (.seq _ _) (fun n50 => ?_))) | (refine AOps.st 50 rfl rfl rfl (op_len rfl tu_34 rfl (.own _ _ _) (fun n50 => ?_))) | (refine AOps.st 50 rfl rfl rfl (op_len rfl tu_34 rfl (.nil 0) (fun n50 => ?_))) | (refine AOps.st 50 rfl rfl rfl (op_len_arr rfl tu_34 rfl ?_))
        refine AOps.st 51 rfl rfl rfl (op_move rfl rfl ?_)
        refine AOps.nil ?_
        refine go_code ?_
        refine c_block ?_
        apply c_loopk [0, 1, 2, 3, 4, 5, 6, 10, 11, 12, 13, 14, 15, 16, 17, 18, 19, 20, 21, 22, 23, 24, 25, 26, 27, 28, 29, 30, 31, 32, 33, 34, 35, 36, 37, 38, 39, 40, 41, 42, 43, 44, 45, 46, 47, 48, 49, 51, 52, 53, 54, 55, 56, 57, 58, 59, 60, 61, 62, 63, 64, 65, 66, 67, 68, 69, 70, 71, 72, 73, 74, 75, 76, 77, 78, 79, 80, 81, 82, 83, 84, 85, 86, 87, 88, 89, 90, 91, 92, 93, 94, 95, 96, 97, 98, 99, 100, 101, 102, 103, 104, 105, 106, 107, 108, 109, 110, 111, 112, 113, 114, 115, 116, 117, 118, 119, 120, 121, 122, 123, 124, 125, 126, 127, 128, 129, 130, 131, 132, 133, 134, 135, 136, 137, 138, 139, 140, 141, 142, 143, 144, 145] (σ := Nat × Res × Res × Res × Res × Res × List HO) (fun zz => match zz with | (i, q0, q1, q2, p0, p1, H) => [(51, .val (.int .i64 i))]) (fun zz => match zz with | (i, q0, q1, q2, p0, p1, H) => [q0, q1, q2, p0, p1]) (fun zz => match zz with | (i, q0, q1, q2, p0, p1, H) => i ≤ ws.length ∧ HeapAt b n H [q0, q1, q2] ∧ RefAt br n H [p0, p1] ∧ Both n H ws) (fun zz => match zz with | (i, q0, q1, q2, p0, p1, H) => ws.length - i) ((0, q0, q1, q2, p0, p1, H0))
        · repeat' (first | exact Drops.nil | apply Drops.keep rfl | apply Drops.skip rfl)
        · exact ⟨Nat.zero_le _, hM0, hR0, hBo0⟩
        · exact (by repeat' (first | exact SLe.nil _ | refine SLe.cons rfl ?_ ?_ | exact Le.refl _ | exact Le.own _ _ _ | exact Le.nil _))
        · exact (by first | exact MLe.none _ | exact MLe.refl _ | (repeat' (first | exact MLe.nil | exact MLe.refl _ | refine MLe.cons _ ?_ | refine MLe.drop _ ?_)))
        rintro ⟨i, q0, q1, q2, p0, p1, H⟩ hI
        try dsimp only [List.cons_append, List.nil_append] at hI ⊢
        obtain ⟨hi, hM, hR, hBo⟩ := hI
        refine c_seq ?_
        refine c_region ?_
        refine AOps.st 52 rfl rfl rfl (op_lss rfl rfl rfl ?_); intro c52 h52
        refine AOps.nil ?_
        refine go_code ?_
        refine c_seq ?_
        rcases bool_split h52 with ⟨rfl, g52⟩ | ⟨rfl, g52⟩
        · refine c_cond_f rfl ?_
          refine c_exit ?_
          refine x_code ?_
          refine x_lp ?_
          refine x_here ?_
          refine go_code ?_
          refine c_seq ?_
          refine c_region ?_
          refine AOps.st 6 rfl rfl rfl (op_assign rfl rfl ?_)
          refine AOps.nil ?_
          refine go_code ?_
          refine c_ret ?_
          exact out_tmp rfl rfl (Le.refl _) (MLe.none _) rfl
        · refine c_cond_t rfl ?_
          refine c_skip ?_
          refine go_code ?_
          refine c_seq ?_
          refine c_block ?_
          refine c_seq ?_
          refine c_region ?_
          refine AOps.st 53 rfl rfl rfl (op_move rfl rfl ?_)
          refine AOps.st 11 rfl rfl rfl (op_assign rfl rfl ?_)
          refine AOps.nil ?_
          refine go_code ?_
          refine c_seq ?_
          obtain ⟨x, hx⟩ := getk (l := ws) (i := i) (by omega)
          obtain ⟨y, hy⟩ := getk (l := ws) (i := ws.length - 1 - i) (by omega)
          have hxg : (ws.map iv)[i]? = some (iv x) := by rw [List.getElem?_map, hx]; rfl
          have hyg : (ws.map iv)[ws.length - 1 - i]? = some (iv y) := by rw [List.getElem?_map, hy]; rfl
          have hxb := hBo.wsb x (List.mem_of_getElem? hx)
          have hyb := hBo.wsb y (List.mem_of_getElem? hy)
          have hf := hBo.fit
          have hlen := hBo.len
          have hGx := rGet_c br n H _ hR hBo.ok (by omega) x
          have hGy := rGet_c br n H _ hR hBo.ok (by omega) y
          have hO := Order_c b n H _ hM (by omega) hBo.ok (by omega) x y (by omega) (by omega) (by omega) (by omega)
          have hC := Cat_c b n H _ hM (by omega) (by omega) hBo.ok (by omega) x y (by omega) (by omega) (by omega) (by omega)
          have hsx := getT_size (w := x) hBo.ok
          have hsy := getT_size (w := y) hBo.ok
          have hPR := rPut_c br n H _ hR (by omega) (by omega) (by omega) (orE (getT H x) ++ orE (getT H y)) (by rw [ByteArray.size_append]; omega)
          have hcl : (Op.bytesLess (orE (getT H x)).toList (orE (getT H y)).toList = true ↔ Lib.compareBytes (orE (getT H x)).data.toList (orE (getT H y)).data.toList = -1) ∧ ((orE (getT H x)).toList = (orE (getT H y)).toList ↔ Lib.compareBytes (orE (getT H x)).data.toList (orE (getT H y)).data.toList = 0) := by
            rw [ba_list, ba_list]
            exact cmp_less _ _
          have hc3 := cmp_three (orE (getT H x)).data.toList (orE (getT H y)).data.toList
          have hCy : ∀ ok w H', CatR n H x y ok w H' → ((((getT H x).isSome && (getT H y).isSome) = true → AllocR n H (textO (orE (getT H x) ++ orE (getT H y))) ok w H') ∧ (((getT H x).isSome && (getT H y).isSome) = false → w = 0 ∧ H' = H) ∧ Both n H' ws ∧ (ok = true ↔ w ≠ 0)) := by
            intro ok w H' h
            obtain ⟨k1, k2⟩ := h.step hBo
            refine ⟨fun q => ?_, fun q => ?_, k1, k2⟩
            · rcases h with ⟨_, h⟩ | ⟨h, _⟩
              · exact h
              · rw [q] at h; cases h
            · rcases h with ⟨h, _⟩ | ⟨_, _, h1, h2⟩
              · rw [q] at h; cases h
              · exact ⟨h1, h2⟩
          rw [getR_eq] at hGx hGy
          unfold ordV at hO
          generalize hcc : Lib.compareBytes (orE (getT H x)).data.toList (orE (getT H y)).data.toList = cc at *
          clear hcc
          generalize hgg : ((getT H x).isSome && (getT H y).isSome) = gg at *
          generalize (getT H x).isSome = gx at *
          generalize (getT H y).isSome = gy at *
          generalize orE (getT H x) = tx at *
          generalize orE (getT H y) = ty at *
          refine c_drawn tmix rfl ?_
          refine DOps.st 54 rfl rfl (op_move rfl rfl ⟨rfl, rfl⟩) ?_
          refine DOps.st 55 rfl rfl (op_move rfl rfl ⟨rfl, rfl⟩) ?_
          first | (refine DOps.st 56 rfl rfl (op_index rfl te_34 rfl (.seq _ _) rfl rfl (by first | exact hxg | exact hyg) ⟨rfl, rfl⟩) ?_) | (refine DOps.st 56 rfl rfl (op_index (i := 0) rfl te_34 rfl (.seq _ _) rfl rfl (by first | rfl | assumption) ⟨rfl, rfl⟩) ?_) | (refine DOps.st 56 rfl rfl (op_index (i := 1) rfl te_34 rfl (.seq _ _) rfl rfl (by first | rfl | assumption) ⟨rfl, rfl⟩) ?_) | (refine DOps.st 56 rfl rfl (op_index rfl te_34 rfl (.own _ _ _) rfl rfl (by first | exact hxg | exact hyg) ⟨rfl, rfl⟩) ?_) | (refine DOps.st 56 rfl rfl (op_index (i := 0) rfl te_34 rfl (.own _ _ _) rfl rfl (by first | rfl | assumption) ⟨rfl, rfl⟩) ?_) | (refine DOps.st 56 rfl rfl (op_index (i := 1) rfl te_34 rfl (.own _ _ _) rfl rfl (by first | rfl | assumption) ⟨rfl, rfl⟩) ?_) | (refine DOps.st 56 rfl rfl (op_index (i := i) rfl te_34 rfl (.seq _ _) rfl (by first | rfl | omega) (by first | exact hxg | exact hyg) ⟨rfl, rfl⟩) ?_) | (refine DOps.st 56 rfl rfl (op_index (i := ws.length - 1 - i) rfl te_34 rfl (.seq _ _) rfl (by first | rfl | omega) (by first | exact hxg | exact hyg) ⟨rfl, rfl⟩) ?_) | (refine DOps.st 56 rfl rfl (op_index (i := i) rfl te_34 rfl (.own _ _ _) rfl (by first | rfl | omega) (by first | exact hxg | exact hyg) ⟨rfl, rfl⟩) ?_) | (refine DOps.st 56 rfl rfl (op_index (i := ws.length - 1 - i) rfl te_34 rfl (.own _ _ _) rfl (by first | rfl | omega) (by first | exact hxg | exact hyg) ⟨rfl, rfl⟩) ?_) | (refine DOps.st 56 rfl rfl (op_index_arr rfl te_34 rfl rfl rfl (by omega) ⟨rfl, rfl⟩) ?_)
          first | (refine DOps.st 57 rfl rfl (op_load_m1 (i := 0) rfl ta_42 rfl rfl rfl ⟨rfl, rfl⟩) ?_) | (refine DOps.st 57 rfl rfl (op_load_m1 (i := 1) rfl ta_42 rfl rfl rfl ⟨rfl, rfl⟩) ?_) | (refine DOps.st 57 rfl rfl (op_load_m1 (i := 2) rfl ta_42 rfl rfl rfl ⟨rfl, rfl⟩) ?_) | (refine DOps.st 57 rfl rfl (op_load_m1 (i := 3) rfl ta_42 rfl rfl rfl ⟨rfl, rfl⟩) ?_) | (refine DOps.st 57 rfl rfl (op_load_m1 (i := 4) rfl ta_42 rfl rfl rfl ⟨rfl, rfl⟩) ?_) | (refine DOps.st 57 rfl rfl (op_load_m1 (i := 5) rfl ta_42 rfl rfl rfl ⟨rfl, rfl⟩) ?_) | (refine DOps.st 57 rfl rfl (op_load_m1 (i := 6) rfl ta_42 rfl rfl rfl ⟨rfl, rfl⟩) ?_) | (refine DOps.st 57 rfl rfl (op_load_m1 (i := 7) rfl ta_42 rfl rfl rfl ⟨rfl, rfl⟩) ?_) | (refine DOps.st 57 rfl rfl (op_load_m1 (i := 8) rfl ta_42 rfl rfl rfl ⟨rfl, rfl⟩) ?_) | (refine DOps.st 57 rfl rfl (op_load_m1 (i := 9) rfl ta_42 rfl rfl rfl ⟨rfl, rfl⟩) ?_) | (refine DOps.st 57 rfl rfl (op_load_c1 rfl ta_42 rfl rfl ⟨rfl, rfl⟩) ?_)
          refine DOps.st 58 rfl rfl (op_move rfl rfl ⟨rfl, rfl⟩) ?_
          refine DOps.st 59 rfl rfl (op_move rfl rfl ⟨rfl, rfl⟩) ?_
          first | (refine DOps.st 60 rfl rfl (op_len rfl tu_34 rfl (.seq _ _) (fun _ => ⟨rfl, rfl⟩)) ?_) | (refine DOps.st 60 rfl rfl (op_len rfl tu_34 rfl (.own _ _ _) (fun _ => ⟨rfl, rfl⟩)) ?_) | (refine DOps.st 60 rfl rfl (op_len rfl tu_34 rfl (.nil 0) (fun _ => ⟨rfl, rfl⟩)) ?_) | (refine DOps.st 60 rfl rfl (op_len_arr rfl tu_34 rfl ⟨rfl, rfl⟩) ?_)
          first | (refine DOps.st 61 rfl rfl (op_sub rfl rfl rfl (IntWalk.i64_in _ (by omega)) ⟨rfl, rfl⟩) ?_) | (refine DOps.st 61 rfl rfl (op_sub rfl rfl rfl rfl ⟨rfl, rfl⟩) ?_)
          refine DOps.st 62 rfl rfl (op_move rfl rfl ⟨rfl, rfl⟩) ?_
          first | (refine DOps.st 63 rfl rfl (op_sub rfl rfl rfl (IntWalk.i64_in _ (by omega)) ⟨rfl, rfl⟩) ?_) | (refine DOps.st 63 rfl rfl (op_sub rfl rfl rfl rfl ⟨rfl, rfl⟩) ?_)
          first | (refine DOps.st 64 rfl rfl (op_index rfl te_34 rfl (.seq _ _) rfl rfl (by first | exact hxg | exact hyg) ⟨rfl, rfl⟩) ?_) | (refine DOps.st 64 rfl rfl (op_index (i := 0) rfl te_34 rfl (.seq _ _) rfl rfl (by first | rfl | assumption) ⟨rfl, rfl⟩) ?_) | (refine DOps.st 64 rfl rfl (op_index (i := 1) rfl te_34 rfl (.seq _ _) rfl rfl (by first | rfl | assumption) ⟨rfl, rfl⟩) ?_) | (refine DOps.st 64 rfl rfl (op_index rfl te_34 rfl (.own _ _ _) rfl rfl (by first | exact hxg | exact hyg) ⟨rfl, rfl⟩) ?_) | (refine DOps.st 64 rfl rfl (op_index (i := 0) rfl te_34 rfl (.own _ _ _) rfl rfl (by first | rfl | assumption) ⟨rfl, rfl⟩) ?_) | (refine DOps.st 64 rfl rfl (op_index (i := 1) rfl te_34 rfl (.own _ _ _) rfl rfl (by first | rfl | assumption) ⟨rfl, rfl⟩) ?_) | (refine DOps.st 64 rfl rfl (op_index (i := i) rfl te_34 rfl (.seq _ _) rfl (by first | rfl | omega) (by first | exact hxg | exact hyg) ⟨rfl, rfl⟩) ?_) | (refine DOps.st 64 rfl rfl (op_index (i := ws.length - 1 - i) rfl te_34 rfl (.seq _ _) rfl (by first | rfl | omega) (by first | exact hxg | exact hyg) ⟨rfl, rfl⟩) ?_) | (refine DOps.st 64 rfl rfl (op_index (i := i) rfl te_34 rfl (.own _ _ _) rfl (by first | rfl | omega) (by first | exact hxg | exact hyg) ⟨rfl, rfl⟩) ?_) | (refine DOps.st 64 rfl rfl (op_index (i := ws.length - 1 - i) rfl te_34 rfl (.own _ _ _) rfl (by first | rfl | omega) (by first | exact hxg | exact hyg) ⟨rfl, rfl⟩) ?_) | (refine DOps.st 64 rfl rfl (op_index_arr rfl te_34 rfl rfl rfl (by omega) ⟨rfl, rfl⟩) ?_)
          first | (refine DOps.st 65 rfl rfl (op_load_m1 (i := 0) rfl ta_42 rfl rfl rfl ⟨rfl, rfl⟩) ?_) | (refine DOps.st 65 rfl rfl (op_load_m1 (i := 1) rfl ta_42 rfl rfl rfl ⟨rfl, rfl⟩) ?_) | (refine DOps.st 65 rfl rfl (op_load_m1 (i := 2) rfl ta_42 rfl rfl rfl ⟨rfl, rfl⟩) ?_) | (refine DOps.st 65 rfl rfl (op_load_m1 (i := 3) rfl ta_42 rfl rfl rfl ⟨rfl, rfl⟩) ?_) | (refine DOps.st 65 rfl rfl (op_load_m1 (i := 4) rfl ta_42 rfl rfl rfl ⟨rfl, rfl⟩) ?_) | (refine DOps.st 65 rfl rfl (op_load_m1 (i := 5) rfl ta_42 rfl rfl rfl ⟨rfl, rfl⟩) ?_) | (refine DOps.st 65 rfl rfl (op_load_m1 (i := 6) rfl ta_42 rfl rfl rfl ⟨rfl, rfl⟩) ?_) | (refine DOps.st 65 rfl rfl (op_load_m1 (i := 7) rfl ta_42 rfl rfl rfl ⟨rfl, rfl⟩) ?_) | (refine DOps.st 65 rfl rfl (op_load_m1 (i := 8) rfl ta_42 rfl rfl rfl ⟨rfl, rfl⟩) ?_) | (refine DOps.st 65 rfl rfl (op_load_m1 (i := 9) rfl ta_42 rfl rfl rfl ⟨rfl, rfl⟩) ?_) | (refine DOps.st 65 rfl rfl (op_load_c1 rfl ta_42 rfl rfl ⟨rfl, rfl⟩) ?_)
          refine DOps.st 12 rfl rfl (op_assign rfl rfl ⟨rfl, rfl⟩) ?_
          refine DOps.st 13 rfl rfl (op_assign rfl rfl ⟨rfl, rfl⟩) ?_
          show AGo _ _ _ _ _ _ _
          refine go_code ?_
          refine c_seq ?_
          refine c_region ?_
          refine AOps.st 67 rfl rfl rfl (op_move rfl rfl ?_)
          refine AOps.st 68 rfl rfl rfl (op_move rfl rfl ?_)
          refine AOps.st 69 rfl rfl rfl (op_callk (xs := [.tmp 67, .tmp 68]) [3,3] rfl rfl rfl (hGx) (by first | exact Les.refl _ | (repeat' (first | exact Les.refl _ | refine Les.cons ?_ ?_ | exact Le.refl _ | exact Le.own _ _ _ | exact Le.nil _ | refine Le.agg ?_))) ?_)
          refine AOps.st 66 rfl rfl rfl (op_move rfl rfl ?_)
          refine AOps.st 70 rfl rfl rfl (op_extract rfl rfl rfl ?_)
          refine AOps.st 71 rfl rfl rfl (op_extract rfl rfl rfl ?_)
          refine AOps.st 14 rfl rfl rfl (op_assign rfl rfl ?_)
          refine AOps.st 15 rfl rfl rfl (op_assign rfl rfl ?_)
          refine AOps.nil ?_
          refine go_code ?_
          refine c_seq ?_
          refine c_region ?_
          refine AOps.st 73 rfl rfl rfl (op_move rfl rfl ?_)
          refine AOps.st 74 rfl rfl rfl (op_move rfl rfl ?_)
          refine AOps.st 75 rfl rfl rfl (op_callk (xs := [.tmp 73, .tmp 74]) [3,3] rfl rfl rfl (hGy) (by first | exact Les.refl _ | (repeat' (first | exact Les.refl _ | refine Les.cons ?_ ?_ | exact Le.refl _ | exact Le.own _ _ _ | exact Le.nil _ | refine Le.agg ?_))) ?_)
          refine AOps.st 72 rfl rfl rfl (op_move rfl rfl ?_)
          refine AOps.st 76 rfl rfl rfl (op_extract rfl rfl rfl ?_)
          refine AOps.st 77 rfl rfl rfl (op_extract rfl rfl rfl ?_)
          refine AOps.st 16 rfl rfl rfl (op_assign rfl rfl ?_)
          refine AOps.st 17 rfl rfl rfl (op_assign rfl rfl ?_)
          refine AOps.nil ?_
          refine go_code ?_
          refine c_seq ?_
          refine c_region ?_
          refine AOps.st 79 rfl rfl rfl (op_move rfl rfl ?_)
          refine AOps.st 80 rfl rfl rfl (op_move rfl rfl ?_)
          refine AOps.st 81 rfl rfl rfl (op_move rfl rfl ?_)
          refine AOps.st 82 rfl rfl rfl (op_callk (xs := [.tmp 79, .tmp 80, .tmp 81]) [0,0,0] rfl rfl rfl (hO) (by first | exact Les.refl _ | (repeat' (first | exact Les.refl _ | refine Les.cons ?_ ?_ | exact Le.refl _ | exact Le.own _ _ _ | exact Le.nil _ | refine Le.agg ?_))) ?_)
          refine AOps.st 78 rfl rfl rfl (op_move rfl rfl ?_)
          refine AOps.st 83 rfl rfl rfl (op_extract rfl rfl rfl ?_)
          refine AOps.st 84 rfl rfl rfl (op_extract rfl rfl rfl ?_)
          refine AOps.st 18 rfl rfl rfl (op_assign rfl rfl ?_)
          refine AOps.st 19 rfl rfl rfl (op_assign rfl rfl ?_)
          refine AOps.nil ?_
          refine go_code ?_
          refine c_seq ?_
          refine c_region ?_
          refine AOps.st 20 rfl rfl rfl (op_assign rfl rfl ?_)
          refine AOps.nil ?_
          refine go_code ?_
          refine c_seq ?_
          refine c_seq ?_
          refine c_region ?_
          refine AOps.st 85 rfl rfl rfl (op_move rfl rfl ?_)
          refine AOps.st 86 rfl rfl rfl (op_move rfl rfl ?_)
          refine AOps.st 87 rfl rfl rfl (op_slssc rfl rfl rfl ?_); intro c87 h87
          refine AOps.nil ?_
          refine go_code ?_
          apply c_joinkm [0, 1, 2, 3, 4, 5, 10, 20, 24, 25, 26, 27, 28, 29, 30, 31, 32, 33, 34, 35, 36, 37, 38, 39, 40, 41, 42, 43, 44, 45, 46, 47, 48, 49] (σ := Int) (fun zz => match zz with | z => [(20, .val (.int .i64 z))]) (fun zz => match zz with | z => (cc = -1 → z = -1) ∧ (cc ≠ -1 → z = 0))
          · repeat' (first | exact Drops.nil | apply Drops.keep rfl | apply Drops.skip rfl)
          · skip
            rcases bool_split h87 with ⟨rfl, g87⟩ | ⟨rfl, g87⟩
            · refine c_cond_f rfl ?_
              refine c_skip ?_
              refine go_lp ?_
              first | exact ⟨-1, ⟨fun _ => rfl, fun q => absurd (hcl.1.1 (by assumption)) q⟩, (by repeat' (first | exact SLe.nil _ | refine SLe.cons rfl ?_ ?_ | exact Le.refl _ | exact Le.own _ _ _ | exact Le.nil _)), (by first | exact MLe.none _ | exact MLe.refl _ | (repeat' (first | exact MLe.nil | exact MLe.refl _ | refine MLe.cons _ ?_ | refine MLe.drop _ ?_)))⟩ | exact ⟨0, ⟨fun q => absurd (hcl.1.2 q) (by assumption), fun _ => rfl⟩, (by repeat' (first | exact SLe.nil _ | refine SLe.cons rfl ?_ ?_ | exact Le.refl _ | exact Le.own _ _ _ | exact Le.nil _)), (by first | exact MLe.none _ | exact MLe.refl _ | (repeat' (first | exact MLe.nil | exact MLe.refl _ | refine MLe.cons _ ?_ | refine MLe.drop _ ?_)))⟩
            · refine c_cond_t rfl ?_
              refine c_region ?_
              refine AOps.st 20 rfl rfl rfl (op_assign rfl rfl ?_)
              refine AOps.nil ?_
              refine go_lp ?_
              first | exact ⟨-1, ⟨fun _ => rfl, fun q => absurd (hcl.1.1 (by assumption)) q⟩, (by repeat' (first | exact SLe.nil _ | refine SLe.cons rfl ?_ ?_ | exact Le.refl _ | exact Le.own _ _ _ | exact Le.nil _)), (by first | exact MLe.none _ | exact MLe.refl _ | (repeat' (first | exact MLe.nil | exact MLe.refl _ | refine MLe.cons _ ?_ | refine MLe.drop _ ?_)))⟩ | exact ⟨0, ⟨fun q => absurd (hcl.1.2 q) (by assumption), fun _ => rfl⟩, (by repeat' (first | exact SLe.nil _ | refine SLe.cons rfl ?_ ?_ | exact Le.refl _ | exact Le.own _ _ _ | exact Le.nil _)), (by first | exact MLe.none _ | exact MLe.refl _ | (repeat' (first | exact MLe.nil | exact MLe.refl _ | refine MLe.cons _ ?_ | refine MLe.drop _ ?_)))⟩
          rintro z hI
          try dsimp only [List.cons_append, List.nil_append] at hI ⊢
          refine go_code ?_
          refine c_seq ?_
          refine c_seq ?_
          have hz1 := hI
          refine c_region ?_
          refine AOps.st 88 rfl rfl rfl (op_move rfl rfl ?_)
          refine AOps.st 89 rfl rfl rfl (op_move rfl rfl ?_)
          refine AOps.st 90 rfl rfl rfl (op_sgtr rfl rfl rfl ?_); intro c90 h90
          refine AOps.nil ?_
          refine go_code ?_
          apply c_joinkm [0, 1, 2, 3, 4, 5, 10, 20, 24, 25, 26, 27, 28, 29, 30, 31, 32, 33, 34, 35, 36, 37, 38, 39, 40, 41, 42, 43, 44, 45, 46, 47, 48, 49] (σ := Int) (fun zz => match zz with | z => [(20, .val (.int .i64 z))]) (fun zz => match zz with | z => z = cc)
          · repeat' (first | exact Drops.nil | apply Drops.keep rfl | apply Drops.skip rfl)
          · skip
            rcases bool_split h90 with ⟨rfl, g90⟩ | ⟨rfl, g90⟩
            · refine c_cond_f rfl ?_
              refine c_skip ?_
              refine go_lp ?_
              clear hGx hGy hO hC hPR hCy hB hS hM hR hBo hl hr hrb
              first | exact ⟨1, by grind, (by repeat' (first | exact SLe.nil _ | refine SLe.cons rfl ?_ ?_ | exact Le.refl _ | exact Le.own _ _ _ | exact Le.nil _)), (by first | exact MLe.none _ | exact MLe.refl _ | (repeat' (first | exact MLe.nil | exact MLe.refl _ | refine MLe.cons _ ?_ | refine MLe.drop _ ?_)))⟩ | exact ⟨z, by grind, (by repeat' (first | exact SLe.nil _ | refine SLe.cons rfl ?_ ?_ | exact Le.refl _ | exact Le.own _ _ _ | exact Le.nil _)), (by first | exact MLe.none _ | exact MLe.refl _ | (repeat' (first | exact MLe.nil | exact MLe.refl _ | refine MLe.cons _ ?_ | refine MLe.drop _ ?_)))⟩
            · refine c_cond_t rfl ?_
              refine c_region ?_
              refine AOps.st 20 rfl rfl rfl (op_assign rfl rfl ?_)
              refine AOps.nil ?_
              refine go_lp ?_
              clear hGx hGy hO hC hPR hCy hB hS hM hR hBo hl hr hrb
              first | exact ⟨1, by grind, (by repeat' (first | exact SLe.nil _ | refine SLe.cons rfl ?_ ?_ | exact Le.refl _ | exact Le.own _ _ _ | exact Le.nil _)), (by first | exact MLe.none _ | exact MLe.refl _ | (repeat' (first | exact MLe.nil | exact MLe.refl _ | refine MLe.cons _ ?_ | refine MLe.drop _ ?_)))⟩ | exact ⟨z, by grind, (by repeat' (first | exact SLe.nil _ | refine SLe.cons rfl ?_ ?_ | exact Le.refl _ | exact Le.own _ _ _ | exact Le.nil _)), (by first | exact MLe.none _ | exact MLe.refl _ | (repeat' (first | exact MLe.nil | exact MLe.refl _ | refine MLe.cons _ ?_ | refine MLe.drop _ ?_)))⟩
          rintro z2 hI
          try dsimp only [List.cons_append, List.nil_append] at hI ⊢
          refine go_code ?_
          refine c_seq ?_
          refine c_seq ?_
          subst hI
          refine c_bool 112 (False) ?_ _ _ rfl ?_
          · skip
            refine AOps.st 91 rfl rfl rfl (op_move rfl rfl ?_)
            refine AOps.st 92 rfl rfl rfl (op_move rfl rfl ?_)
            refine AOps.st 93 rfl rfl rfl (op_move rfl rfl ?_)
            have h93 : (gx = true ↔ gx = true) := Iff.rfl
            rcases bool_split h93 with ⟨rfl, g93⟩ | ⟨rfl, g93⟩
            · skip
              refine AOps.gf 94 rfl rfl rfl rfl rfl ?_
              refine AOps.st 95 rfl rfl rfl (op_pick rfl rfl rfl ?_)
              refine AOps.st 96 rfl rfl rfl (op_bneqc rfl tu_4 rfl rfl ?_); intro c96 h96
              refine AOps.st 97 rfl rfl rfl (op_move rfl rfl ?_)
              rcases bool_split h96 with ⟨rfl, g96⟩ | ⟨rfl, g96⟩
              · skip
                refine AOps.gt 98 rfl rfl rfl rfl rfl (op_move rfl rfl ?_)
                refine AOps.gt 99 rfl rfl rfl rfl rfl (op_move rfl rfl ?_)
                have h99 : (gg = true ↔ gg = true) := Iff.rfl
                rcases bool_split h99 with ⟨rfl, g99⟩ | ⟨rfl, g99⟩
                · skip
                  refine AOps.gf 100 rfl rfl rfl rfl rfl ?_
                  refine AOps.gf 101 rfl rfl rfl rfl rfl ?_
                  refine AOps.gf 102 rfl rfl rfl rfl rfl ?_
                  refine AOps.gt 103 rfl rfl rfl rfl rfl (op_pick rfl rfl rfl ?_)
                  refine AOps.st 104 rfl rfl rfl (op_pick rfl rfl rfl ?_)
                  refine AOps.st 105 rfl rfl rfl (op_move rfl rfl ?_)
                  refine AOps.gt 106 rfl rfl rfl rfl rfl (op_move rfl rfl ?_)
                  refine AOps.gt 107 rfl rfl rfl rfl rfl (op_notc rfl rfl ?_); intro c107 h107
                  try replace h107 := nott h107 h84
                  refine AOps.gt 108 rfl rfl rfl rfl rfl (op_move rfl rfl ?_)
                  rcases bool_split h107 with ⟨rfl, g107⟩ | ⟨rfl, g107⟩
                  · skip
                    refine AOps.gf 109 rfl rfl rfl rfl rfl ?_
                    refine AOps.gf 110 rfl rfl rfl rfl rfl ?_
                    refine AOps.gt 111 rfl rfl rfl rfl rfl (op_pick rfl rfl rfl ?_)
                    refine AOps.st 112 rfl rfl rfl (op_pick rfl rfl rfl ?_)
                    refine AOps.nil ?_
                    refine BoolQ.mk rfl ?_ (by repeat' (first | exact SLe.wo _ _ | exact SLe.refl _ | refine SLe.fresh rfl ?_)) (by first | exact MLe.none _ | exact MLe.refl _ | (repeat' (first | exact MLe.nil | exact MLe.refl _ | refine MLe.cons _ ?_ | refine MLe.drop _ ?_)))
                    clear hGx hGy hO hC hPR hCy hM hR hBo hcl hc3 hB hS
                    first | (simp_all; done) | grind
                  · skip
                    refine AOps.gt 109 rfl rfl rfl rfl rfl (op_move rfl rfl ?_)
                    refine AOps.gt 110 rfl rfl rfl rfl rfl (op_neq rfl rfl rfl ?_); intro c110 h110
                    refine AOps.gt 111 rfl rfl rfl rfl rfl (op_pick rfl rfl rfl ?_)
                    refine AOps.st 112 rfl rfl rfl (op_pick rfl rfl rfl ?_)
                    refine AOps.nil ?_
                    refine BoolQ.mk rfl ?_ (by repeat' (first | exact SLe.wo _ _ | exact SLe.refl _ | refine SLe.fresh rfl ?_)) (by first | exact MLe.none _ | exact MLe.refl _ | (repeat' (first | exact MLe.nil | exact MLe.refl _ | refine MLe.cons _ ?_ | refine MLe.drop _ ?_)))
                    clear hGx hGy hO hC hPR hCy hM hR hBo hcl hc3 hB hS
                    first | (simp_all; done) | grind
                · skip
                  refine AOps.gt 100 rfl rfl rfl rfl rfl (op_move rfl rfl ?_)
                  refine AOps.gt 101 rfl rfl rfl rfl rfl (op_move rfl rfl ?_)
                  refine AOps.gt 102 rfl rfl rfl rfl rfl (op_neq rfl rfl rfl ?_); intro c102 h102
                  refine AOps.gt 103 rfl rfl rfl rfl rfl (op_pick rfl rfl rfl ?_)
                  refine AOps.st 104 rfl rfl rfl (op_pick rfl rfl rfl ?_)
                  refine AOps.st 105 rfl rfl rfl (op_move rfl rfl ?_)
                  rcases bool_split h102 with ⟨rfl, g102⟩ | ⟨rfl, g102⟩
                  · skip
                    refine AOps.gt 106 rfl rfl rfl rfl rfl (op_move rfl rfl ?_)
                    refine AOps.gt 107 rfl rfl rfl rfl rfl (op_notc rfl rfl ?_); intro c107 h107
                    try replace h107 := nott h107 h84
                    refine AOps.gt 108 rfl rfl rfl rfl rfl (op_move rfl rfl ?_)
                    rcases bool_split h107 with ⟨rfl, g107⟩ | ⟨rfl, g107⟩
                    · skip
                      refine AOps.gf 109 rfl rfl rfl rfl rfl ?_
                      refine AOps.gf 110 rfl rfl rfl rfl rfl ?_
                      refine AOps.gt 111 rfl rfl rfl rfl rfl (op_pick rfl rfl rfl ?_)
                      refine AOps.st 112 rfl rfl rfl (op_pick rfl rfl rfl ?_)
                      refine AOps.nil ?_
                      refine BoolQ.mk rfl ?_ (by repeat' (first | exact SLe.wo _ _ | exact SLe.refl _ | refine SLe.fresh rfl ?_)) (by first | exact MLe.none _ | exact MLe.refl _ | (repeat' (first | exact MLe.nil | exact MLe.refl _ | refine MLe.cons _ ?_ | refine MLe.drop _ ?_)))
                      clear hGx hGy hO hC hPR hCy hM hR hBo hcl hc3 hB hS
                      first | (simp_all; done) | grind
                    · skip
                      refine AOps.gt 109 rfl rfl rfl rfl rfl (op_move rfl rfl ?_)
                      refine AOps.gt 110 rfl rfl rfl rfl rfl (op_neq rfl rfl rfl ?_); intro c110 h110
                      refine AOps.gt 111 rfl rfl rfl rfl rfl (op_pick rfl rfl rfl ?_)
                      refine AOps.st 112 rfl rfl rfl (op_pick rfl rfl rfl ?_)
                      refine AOps.nil ?_
                      refine BoolQ.mk rfl ?_ (by repeat' (first | exact SLe.wo _ _ | exact SLe.refl _ | refine SLe.fresh rfl ?_)) (by first | exact MLe.none _ | exact MLe.refl _ | (repeat' (first | exact MLe.nil | exact MLe.refl _ | refine MLe.cons _ ?_ | refine MLe.drop _ ?_)))
                      clear hGx hGy hO hC hPR hCy hM hR hBo hcl hc3 hB hS
                      first | (simp_all; done) | grind
                  · skip
                    refine AOps.gf 106 rfl rfl rfl rfl rfl ?_
                    refine AOps.gf 107 rfl rfl rfl rfl rfl ?_
                    refine AOps.gf 108 rfl rfl rfl rfl rfl ?_
                    refine AOps.gu 109 rfl rfl rfl rfl rfl ?_
                    refine AOps.gu 110 rfl rfl rfl rfl rfl ?_
                    refine AOps.gf 111 rfl rfl rfl rfl rfl ?_
                    refine AOps.st 112 rfl rfl rfl (op_pick rfl rfl rfl ?_)
                    refine AOps.nil ?_
                    refine BoolQ.mk rfl ?_ (by repeat' (first | exact SLe.wo _ _ | exact SLe.refl _ | refine SLe.fresh rfl ?_)) (by first | exact MLe.none _ | exact MLe.refl _ | (repeat' (first | exact MLe.nil | exact MLe.refl _ | refine MLe.cons _ ?_ | refine MLe.drop _ ?_)))
                    clear hGx hGy hO hC hPR hCy hM hR hBo hcl hc3 hB hS
                    first | (simp_all; done) | grind
              · skip
                refine AOps.gf 98 rfl rfl rfl rfl rfl ?_
                refine AOps.gf 99 rfl rfl rfl rfl rfl ?_
                refine AOps.gu 100 rfl rfl rfl rfl rfl ?_
                refine AOps.gu 101 rfl rfl rfl rfl rfl ?_
                refine AOps.gu 102 rfl rfl rfl rfl rfl ?_
                refine AOps.gf 103 rfl rfl rfl rfl rfl ?_
                refine AOps.st 104 rfl rfl rfl (op_pick rfl rfl rfl ?_)
                refine AOps.st 105 rfl rfl rfl (op_move rfl rfl ?_)
                refine AOps.gf 106 rfl rfl rfl rfl rfl ?_
                refine AOps.gf 107 rfl rfl rfl rfl rfl ?_
                refine AOps.gf 108 rfl rfl rfl rfl rfl ?_
                refine AOps.gu 109 rfl rfl rfl rfl rfl ?_
                refine AOps.gu 110 rfl rfl rfl rfl rfl ?_
                refine AOps.gf 111 rfl rfl rfl rfl rfl ?_
                refine AOps.st 112 rfl rfl rfl (op_pick rfl rfl rfl ?_)
                refine AOps.nil ?_
                refine BoolQ.mk rfl ?_ (by repeat' (first | exact SLe.wo _ _ | exact SLe.refl _ | refine SLe.fresh rfl ?_)) (by first | exact MLe.none _ | exact MLe.refl _ | (repeat' (first | exact MLe.nil | exact MLe.refl _ | refine MLe.cons _ ?_ | refine MLe.drop _ ?_)))
                clear hGx hGy hO hC hPR hCy hM hR hBo hcl hc3 hB hS
                first | (simp_all; done) | grind
            · skip
              refine AOps.gt 94 rfl rfl rfl rfl rfl (op_move rfl rfl ?_)
              refine AOps.st 95 rfl rfl rfl (op_pick rfl rfl rfl ?_)
              refine AOps.st 96 rfl rfl rfl (op_bneqc rfl tu_4 rfl rfl ?_); intro c96 h96
              refine AOps.st 97 rfl rfl rfl (op_move rfl rfl ?_)
              rcases bool_split h96 with ⟨rfl, g96⟩ | ⟨rfl, g96⟩
              · skip
                refine AOps.gt 98 rfl rfl rfl rfl rfl (op_move rfl rfl ?_)
                refine AOps.gt 99 rfl rfl rfl rfl rfl (op_move rfl rfl ?_)
                have h99 : (gg = true ↔ gg = true) := Iff.rfl
                rcases bool_split h99 with ⟨rfl, g99⟩ | ⟨rfl, g99⟩
                · skip
                  refine AOps.gf 100 rfl rfl rfl rfl rfl ?_
                  refine AOps.gf 101 rfl rfl rfl rfl rfl ?_
                  refine AOps.gf 102 rfl rfl rfl rfl rfl ?_
                  refine AOps.gt 103 rfl rfl rfl rfl rfl (op_pick rfl rfl rfl ?_)
                  refine AOps.st 104 rfl rfl rfl (op_pick rfl rfl rfl ?_)
                  refine AOps.st 105 rfl rfl rfl (op_move rfl rfl ?_)
                  refine AOps.gt 106 rfl rfl rfl rfl rfl (op_move rfl rfl ?_)
                  refine AOps.gt 107 rfl rfl rfl rfl rfl (op_notc rfl rfl ?_); intro c107 h107
                  try replace h107 := nott h107 h84
                  refine AOps.gt 108 rfl rfl rfl rfl rfl (op_move rfl rfl ?_)
                  rcases bool_split h107 with ⟨rfl, g107⟩ | ⟨rfl, g107⟩
                  · skip
                    refine AOps.gf 109 rfl rfl rfl rfl rfl ?_
                    refine AOps.gf 110 rfl rfl rfl rfl rfl ?_
                    refine AOps.gt 111 rfl rfl rfl rfl rfl (op_pick rfl rfl rfl ?_)
                    refine AOps.st 112 rfl rfl rfl (op_pick rfl rfl rfl ?_)
                    refine AOps.nil ?_
                    refine BoolQ.mk rfl ?_ (by repeat' (first | exact SLe.wo _ _ | exact SLe.refl _ | refine SLe.fresh rfl ?_)) (by first | exact MLe.none _ | exact MLe.refl _ | (repeat' (first | exact MLe.nil | exact MLe.refl _ | refine MLe.cons _ ?_ | refine MLe.drop _ ?_)))
                    clear hGx hGy hO hC hPR hCy hM hR hBo hcl hc3 hB hS
                    first | (simp_all; done) | grind
                  · skip
                    refine AOps.gt 109 rfl rfl rfl rfl rfl (op_move rfl rfl ?_)
                    refine AOps.gt 110 rfl rfl rfl rfl rfl (op_neq rfl rfl rfl ?_); intro c110 h110
                    refine AOps.gt 111 rfl rfl rfl rfl rfl (op_pick rfl rfl rfl ?_)
                    refine AOps.st 112 rfl rfl rfl (op_pick rfl rfl rfl ?_)
                    refine AOps.nil ?_
                    refine BoolQ.mk rfl ?_ (by repeat' (first | exact SLe.wo _ _ | exact SLe.refl _ | refine SLe.fresh rfl ?_)) (by first | exact MLe.none _ | exact MLe.refl _ | (repeat' (first | exact MLe.nil | exact MLe.refl _ | refine MLe.cons _ ?_ | refine MLe.drop _ ?_)))
                    clear hGx hGy hO hC hPR hCy hM hR hBo hcl hc3 hB hS
                    first | (simp_all; done) | grind
                · skip
                  refine AOps.gt 100 rfl rfl rfl rfl rfl (op_move rfl rfl ?_)
                  refine AOps.gt 101 rfl rfl rfl rfl rfl (op_move rfl rfl ?_)
                  refine AOps.gt 102 rfl rfl rfl rfl rfl (op_neq rfl rfl rfl ?_); intro c102 h102
                  refine AOps.gt 103 rfl rfl rfl rfl rfl (op_pick rfl rfl rfl ?_)
                  refine AOps.st 104 rfl rfl rfl (op_pick rfl rfl rfl ?_)
                  refine AOps.st 105 rfl rfl rfl (op_move rfl rfl ?_)
                  rcases bool_split h102 with ⟨rfl, g102⟩ | ⟨rfl, g102⟩
                  · skip
                    refine AOps.gt 106 rfl rfl rfl rfl rfl (op_move rfl rfl ?_)
                    refine AOps.gt 107 rfl rfl rfl rfl rfl (op_notc rfl rfl ?_); intro c107 h107
                    try replace h107 := nott h107 h84
                    refine AOps.gt 108 rfl rfl rfl rfl rfl (op_move rfl rfl ?_)
                    rcases bool_split h107 with ⟨rfl, g107⟩ | ⟨rfl, g107⟩
                    · skip
                      refine AOps.gf 109 rfl rfl rfl rfl rfl ?_
                      refine AOps.gf 110 rfl rfl rfl rfl rfl ?_
                      refine AOps.gt 111 rfl rfl rfl rfl rfl (op_pick rfl rfl rfl ?_)
                      refine AOps.st 112 rfl rfl rfl (op_pick rfl rfl rfl ?_)
                      refine AOps.nil ?_
                      refine BoolQ.mk rfl ?_ (by repeat' (first | exact SLe.wo _ _ | exact SLe.refl _ | refine SLe.fresh rfl ?_)) (by first | exact MLe.none _ | exact MLe.refl _ | (repeat' (first | exact MLe.nil | exact MLe.refl _ | refine MLe.cons _ ?_ | refine MLe.drop _ ?_)))
                      clear hGx hGy hO hC hPR hCy hM hR hBo hcl hc3 hB hS
                      first | (simp_all; done) | grind
                    · skip
                      refine AOps.gt 109 rfl rfl rfl rfl rfl (op_move rfl rfl ?_)
                      refine AOps.gt 110 rfl rfl rfl rfl rfl (op_neq rfl rfl rfl ?_); intro c110 h110
                      refine AOps.gt 111 rfl rfl rfl rfl rfl (op_pick rfl rfl rfl ?_)
                      refine AOps.st 112 rfl rfl rfl (op_pick rfl rfl rfl ?_)
                      refine AOps.nil ?_
                      refine BoolQ.mk rfl ?_ (by repeat' (first | exact SLe.wo _ _ | exact SLe.refl _ | refine SLe.fresh rfl ?_)) (by first | exact MLe.none _ | exact MLe.refl _ | (repeat' (first | exact MLe.nil | exact MLe.refl _ | refine MLe.cons _ ?_ | refine MLe.drop _ ?_)))
                      clear hGx hGy hO hC hPR hCy hM hR hBo hcl hc3 hB hS
                      first | (simp_all; done) | grind
                  · skip
                    refine AOps.gf 106 rfl rfl rfl rfl rfl ?_
                    refine AOps.gf 107 rfl rfl rfl rfl rfl ?_
                    refine AOps.gf 108 rfl rfl rfl rfl rfl ?_
                    refine AOps.gu 109 rfl rfl rfl rfl rfl ?_
                    refine AOps.gu 110 rfl rfl rfl rfl rfl ?_
                    refine AOps.gf 111 rfl rfl rfl rfl rfl ?_
                    refine AOps.st 112 rfl rfl rfl (op_pick rfl rfl rfl ?_)
                    refine AOps.nil ?_
                    refine BoolQ.mk rfl ?_ (by repeat' (first | exact SLe.wo _ _ | exact SLe.refl _ | refine SLe.fresh rfl ?_)) (by first | exact MLe.none _ | exact MLe.refl _ | (repeat' (first | exact MLe.nil | exact MLe.refl _ | refine MLe.cons _ ?_ | refine MLe.drop _ ?_)))
                    clear hGx hGy hO hC hPR hCy hM hR hBo hcl hc3 hB hS
                    first | (simp_all; done) | grind
              · skip
                refine AOps.gf 98 rfl rfl rfl rfl rfl ?_
                refine AOps.gf 99 rfl rfl rfl rfl rfl ?_
                refine AOps.gu 100 rfl rfl rfl rfl rfl ?_
                refine AOps.gu 101 rfl rfl rfl rfl rfl ?_
                refine AOps.gu 102 rfl rfl rfl rfl rfl ?_
                refine AOps.gf 103 rfl rfl rfl rfl rfl ?_
                refine AOps.st 104 rfl rfl rfl (op_pick rfl rfl rfl ?_)
                refine AOps.st 105 rfl rfl rfl (op_move rfl rfl ?_)
                refine AOps.gf 106 rfl rfl rfl rfl rfl ?_
                refine AOps.gf 107 rfl rfl rfl rfl rfl ?_
                refine AOps.gf 108 rfl rfl rfl rfl rfl ?_
                refine AOps.gu 109 rfl rfl rfl rfl rfl ?_
                refine AOps.gu 110 rfl rfl rfl rfl rfl ?_
                refine AOps.gf 111 rfl rfl rfl rfl rfl ?_
                refine AOps.st 112 rfl rfl rfl (op_pick rfl rfl rfl ?_)
                refine AOps.nil ?_
                refine BoolQ.mk rfl ?_ (by repeat' (first | exact SLe.wo _ _ | exact SLe.refl _ | refine SLe.fresh rfl ?_)) (by first | exact MLe.none _ | exact MLe.refl _ | (repeat' (first | exact MLe.nil | exact MLe.refl _ | refine MLe.cons _ ?_ | refine MLe.drop _ ?_)))
                clear hGx hGy hO hC hPR hCy hM hR hBo hcl hc3 hB hS
                first | (simp_all; done) | grind
          intro c112 h112
          refine go_code ?_
          rcases bool_split h112 with ⟨rfl, g112⟩ | ⟨rfl, g112⟩
          · refine c_cond_f rfl ?_
            refine c_skip ?_
            refine go_code ?_
            refine c_seq ?_
            refine c_region ?_
            refine AOps.st 114 rfl rfl rfl (op_move rfl rfl ?_)
            refine AOps.st 115 rfl rfl rfl (op_move rfl rfl ?_)
            refine AOps.st 116 rfl rfl rfl (op_move rfl rfl ?_)
            refine AOps.st 117 rfl rfl rfl (op_callat [0,0,0] (xs := [.tmp 114, .tmp 115, .tmp 116])  rfl rfl rfl hC (by first | exact Les.refl _ | (repeat' (first | exact Les.refl _ | refine Les.cons ?_ ?_ | exact Le.refl _ | exact Le.own _ _ _ | exact Le.nil _ | refine Le.agg ?_))) ?_)
            rintro v1 M1 ⟨ok, w, H', hCR, rfl, hM2⟩
            obtain ⟨t0, t1, t2, rfl⟩ := hM2.three
            obtain ⟨k1, k2, hBo2, k4⟩ := hCy ok w H' hCR
            refine AOps.st 113 rfl rfl rfl (op_move rfl rfl ?_)
            refine AOps.st 118 rfl rfl rfl (op_extract rfl rfl rfl ?_)
            refine AOps.st 119 rfl rfl rfl (op_extract rfl rfl rfl ?_)
            refine AOps.st 21 rfl rfl rfl (op_assign rfl rfl ?_)
            refine AOps.st 22 rfl rfl rfl (op_assign rfl rfl ?_)
            refine AOps.nil ?_
            refine go_code ?_
            refine c_seq ?_
            refine c_region ?_
            refine AOps.st 23 rfl rfl rfl (op_assign rfl rfl ?_)
            refine AOps.nil ?_
            refine go_code ?_
            refine c_seq ?_
            refine c_seq ?_
            refine c_bool 123 (gg = true) ?_ _ _ rfl ?_
            · skip
              refine AOps.st 120 rfl rfl rfl (op_move rfl rfl ?_)
              refine AOps.st 121 rfl rfl rfl (op_move rfl rfl ?_)
              have h121 : (gx = true ↔ gx = true) := Iff.rfl
              rcases bool_split h121 with ⟨rfl, g121⟩ | ⟨rfl, g121⟩
              · skip
                refine AOps.gf 122 rfl rfl rfl rfl rfl ?_
                refine AOps.st 123 rfl rfl rfl (op_pick rfl rfl rfl ?_)
                refine AOps.nil ?_
                refine BoolQ.mk rfl ?_ (by repeat' (first | exact SLe.wo _ _ | exact SLe.refl _ | refine SLe.fresh rfl ?_)) (by first | exact MLe.none _ | exact MLe.refl _ | (repeat' (first | exact MLe.nil | exact MLe.refl _ | refine MLe.cons _ ?_ | refine MLe.drop _ ?_)))
                clear hGx hGy hO hC hPR hCy hM hR hBo hcl hc3 hB hS
                first | (simp_all; done) | grind
              · skip
                refine AOps.gt 122 rfl rfl rfl rfl rfl (op_move rfl rfl ?_)
                refine AOps.st 123 rfl rfl rfl (op_pick rfl rfl rfl ?_)
                refine AOps.nil ?_
                refine BoolQ.mk rfl ?_ (by repeat' (first | exact SLe.wo _ _ | exact SLe.refl _ | refine SLe.fresh rfl ?_)) (by first | exact MLe.none _ | exact MLe.refl _ | (repeat' (first | exact MLe.nil | exact MLe.refl _ | refine MLe.cons _ ?_ | refine MLe.drop _ ?_)))
                clear hGx hGy hO hC hPR hCy hM hR hBo hcl hc3 hB hS
                first | (simp_all; done) | grind
            intro c123 h123
            refine go_code ?_
            apply c_joink [0, 1, 2, 3, 4, 5, 10, 23, 24, 25, 26, 27, 28, 29, 30, 31, 32, 33, 34, 35, 36, 37, 38, 39, 40, 41, 42, 43, 44, 45, 46, 47, 48, 49, 124, 125, 126, 127, 128] (σ := Int × Res × Res) (fun zz => match zz with | (w2, u0, u1) => [(23, .val (.int .u64 w2))]) (fun zz => match zz with | (w2, u0, u1) => [t0, t1, t2, u0, u1]) (fun zz => match zz with | (w2, u0, u1) => RefAt br n H' [u0, u1] ∧ w2 = w)
            · repeat' (first | exact Drops.nil | apply Drops.keep rfl | apply Drops.skip rfl)
            · skip
              rcases bool_split h123 with ⟨rfl, g123⟩ | ⟨rfl, g123⟩
              · refine c_cond_f rfl ?_
                refine c_skip ?_
                refine go_lp ?_
                first | exact ⟨(_, u0, u1), ⟨hR2, rfl⟩, (by repeat' (first | exact SLe.nil _ | refine SLe.cons rfl ?_ ?_ | exact Le.refl _ | exact Le.own _ _ _ | exact Le.nil _)), (by first | exact MLe.none _ | exact MLe.refl _ | (repeat' (first | exact MLe.nil | exact MLe.refl _ | refine MLe.cons _ ?_ | refine MLe.drop _ ?_)))⟩ | (obtain ⟨rfl, rfl⟩ := k2 (by simpa using g123); exact ⟨(_, p0, p1), ⟨hR, rfl⟩, (by repeat' (first | exact SLe.nil _ | refine SLe.cons rfl ?_ ?_ | exact Le.refl _ | exact Le.own _ _ _ | exact Le.nil _)), (by first | exact MLe.none _ | exact MLe.refl _ | (repeat' (first | exact MLe.nil | exact MLe.refl _ | refine MLe.cons _ ?_ | refine MLe.drop _ ?_)))⟩)
              · refine c_cond_t rfl ?_
                refine c_region ?_
                refine AOps.st 124 rfl rfl rfl (op_move rfl rfl ?_)
                refine AOps.st 125 rfl rfl rfl (op_move rfl rfl ?_)
                refine AOps.st 126 rfl rfl rfl (op_move rfl rfl ?_)
                refine AOps.st 127 rfl rfl rfl (op_sadd rfl rfl rfl (by omega) ?_)
                refine AOps.st 128 rfl rfl rfl (op_callm (xs := [.tmp 124, .tmp 127])  [t0, t1, t2] rfl rfl rfl hPR (by first | exact Les.refl _ | (repeat' (first | exact Les.refl _ | refine Les.cons ?_ ?_ | exact Le.refl _ | exact Le.own _ _ _ | exact Le.nil _ | refine Le.agg ?_))) ?_)
                rintro v1 M1 ⟨ok2, w2, H2, hA2, rfl, hR2⟩
                obtain ⟨u0, u1, rfl⟩ := hR2.two
                obtain ⟨rfl, rfl, rfl⟩ := (k1 g123).same hA2
                refine AOps.st 23 rfl rfl rfl (op_assign rfl rfl ?_)
                refine AOps.nil ?_
                refine go_lp ?_
                first | exact ⟨(_, u0, u1), ⟨hR2, rfl⟩, (by repeat' (first | exact SLe.nil _ | refine SLe.cons rfl ?_ ?_ | exact Le.refl _ | exact Le.own _ _ _ | exact Le.nil _)), (by first | exact MLe.none _ | exact MLe.refl _ | (repeat' (first | exact MLe.nil | exact MLe.refl _ | refine MLe.cons _ ?_ | refine MLe.drop _ ?_)))⟩ | (obtain ⟨rfl, rfl⟩ := k2 (by simpa using g123); exact ⟨(_, p0, p1), ⟨hR, rfl⟩, (by repeat' (first | exact SLe.nil _ | refine SLe.cons rfl ?_ ?_ | exact Le.refl _ | exact Le.own _ _ _ | exact Le.nil _)), (by first | exact MLe.none _ | exact MLe.refl _ | (repeat' (first | exact MLe.nil | exact MLe.refl _ | refine MLe.cons _ ?_ | refine MLe.drop _ ?_)))⟩)
            rintro ⟨w2, u0, u1⟩ hI
            try dsimp only [List.cons_append, List.nil_append] at hI ⊢
            refine go_code ?_
            refine c_seq ?_
            obtain ⟨hR3, rfl⟩ := hI
            have hf2 := hBo2.fit
            have hlen2 := hBo2.len
            have hU := Used_c b n _ _ hM2 (by omega) (by omega)
            have hUr := rUsed_c br n _ _ hR3 (by omega)
            refine c_bool 144 (False) ?_ _ _ rfl ?_
            · skip
              refine AOps.st 129 rfl rfl rfl (op_move rfl rfl ?_)
              refine AOps.st 130 rfl rfl rfl (op_move rfl rfl ?_)
              refine AOps.st 131 rfl rfl rfl (op_neq rfl rfl rfl ?_); intro c131 h131
              refine AOps.st 132 rfl rfl rfl (op_move rfl rfl ?_)
              rcases bool_split h131 with ⟨rfl, g131⟩ | ⟨rfl, g131⟩
              · skip
                refine AOps.gt 133 rfl rfl rfl rfl rfl (op_move rfl rfl ?_)
                refine AOps.gt 134 rfl rfl rfl rfl rfl (op_move rfl rfl ?_)
                refine AOps.gt 135 rfl rfl rfl rfl rfl (op_neq rfl rfl rfl ?_); intro c135 h135
                refine AOps.gt 136 rfl rfl rfl rfl rfl (op_bneqc rfl tu_4 rfl rfl ?_); intro c136 h136
                refine AOps.st 137 rfl rfl rfl (op_pick rfl rfl rfl ?_)
                refine AOps.st 138 rfl rfl rfl (op_move rfl rfl ?_)
                rcases bool_split h136 with ⟨rfl, g136⟩ | ⟨rfl, g136⟩
                · skip
                  refine AOps.gt 139 rfl rfl rfl rfl rfl (op_move rfl rfl ?_)
                  refine AOps.gt 140 rfl rfl rfl rfl rfl (op_callk (xs := [.tmp 139]) [0,0,0] rfl rfl rfl (hU) (by first | exact Les.refl _ | (repeat' (first | exact Les.refl _ | refine Les.cons ?_ ?_ | exact Le.refl _ | exact Le.own _ _ _ | exact Le.nil _ | refine Le.agg ?_))) ?_)
                  refine AOps.gt 141 rfl rfl rfl rfl rfl (op_move rfl rfl ?_)
                  refine AOps.gt 142 rfl rfl rfl rfl rfl (op_callk (xs := [.tmp 141]) [3,3] rfl rfl rfl (hUr) (by first | exact Les.refl _ | (repeat' (first | exact Les.refl _ | refine Les.cons ?_ ?_ | exact Le.refl _ | exact Le.own _ _ _ | exact Le.nil _ | refine Le.agg ?_))) ?_)
                  refine AOps.gt 143 rfl rfl rfl rfl rfl (op_neq rfl rfl rfl ?_); intro c143 h143
                  refine AOps.st 144 rfl rfl rfl (op_pick rfl rfl rfl ?_)
                  refine AOps.nil ?_
                  refine BoolQ.mk rfl ?_ (by repeat' (first | exact SLe.wo _ _ | exact SLe.refl _ | refine SLe.fresh rfl ?_)) (by first | exact MLe.none _ | exact MLe.refl _ | (repeat' (first | exact MLe.nil | exact MLe.refl _ | refine MLe.cons _ ?_ | refine MLe.drop _ ?_)))
                  clear hU hUr hGx hGy hO hC hPR hCy hM hR hBo hcl hc3 hB hS hM2 hR3 hBo2 k1 k2
                  first | (simp_all; done) | grind
                · skip
                  refine AOps.gf 139 rfl rfl rfl rfl rfl ?_
                  refine AOps.gf 140 rfl rfl rfl rfl rfl ?_
                  refine AOps.gf 141 rfl rfl rfl rfl rfl ?_
                  refine AOps.gf 142 rfl rfl rfl rfl rfl ?_
                  refine AOps.gf 143 rfl rfl rfl rfl rfl ?_
                  refine AOps.st 144 rfl rfl rfl (op_pick rfl rfl rfl ?_)
                  refine AOps.nil ?_
                  refine BoolQ.mk rfl ?_ (by repeat' (first | exact SLe.wo _ _ | exact SLe.refl _ | refine SLe.fresh rfl ?_)) (by first | exact MLe.none _ | exact MLe.refl _ | (repeat' (first | exact MLe.nil | exact MLe.refl _ | refine MLe.cons _ ?_ | refine MLe.drop _ ?_)))
                  clear hU hUr hGx hGy hO hC hPR hCy hM hR hBo hcl hc3 hB hS hM2 hR3 hBo2 k1 k2
                  first | (simp_all; done) | grind
              · skip
                refine AOps.gf 133 rfl rfl rfl rfl rfl ?_
                refine AOps.gf 134 rfl rfl rfl rfl rfl ?_
                refine AOps.gf 135 rfl rfl rfl rfl rfl ?_
                refine AOps.gf 136 rfl rfl rfl rfl rfl ?_
                refine AOps.st 137 rfl rfl rfl (op_pick rfl rfl rfl ?_)
                refine AOps.st 138 rfl rfl rfl (op_move rfl rfl ?_)
                refine AOps.gf 139 rfl rfl rfl rfl rfl ?_
                refine AOps.gf 140 rfl rfl rfl rfl rfl ?_
                refine AOps.gf 141 rfl rfl rfl rfl rfl ?_
                refine AOps.gf 142 rfl rfl rfl rfl rfl ?_
                refine AOps.gf 143 rfl rfl rfl rfl rfl ?_
                refine AOps.st 144 rfl rfl rfl (op_pick rfl rfl rfl ?_)
                refine AOps.nil ?_
                refine BoolQ.mk rfl ?_ (by repeat' (first | exact SLe.wo _ _ | exact SLe.refl _ | refine SLe.fresh rfl ?_)) (by first | exact MLe.none _ | exact MLe.refl _ | (repeat' (first | exact MLe.nil | exact MLe.refl _ | refine MLe.cons _ ?_ | refine MLe.drop _ ?_)))
                clear hU hUr hGx hGy hO hC hPR hCy hM hR hBo hcl hc3 hB hS hM2 hR3 hBo2 k1 k2
                first | (simp_all; done) | grind
            intro c144 h144
            refine go_code ?_
            rcases bool_split h144 with ⟨rfl, g144⟩ | ⟨rfl, g144⟩
            · refine c_cond_f rfl ?_
              refine c_skip ?_
              refine go_blk ?_
              refine go_code ?_
              refine c_region ?_
              first | (refine AOps.st 145 rfl rfl rfl (op_add rfl rfl rfl (IntWalk.i64_in _ (by omega)) ?_)) | (refine AOps.st 145 rfl rfl rfl (op_add rfl rfl rfl rfl ?_))
              refine AOps.st 51 rfl rfl rfl (op_move rfl rfl ?_)
              refine AOps.nil ?_
              refine go_lp ?_
              exact ⟨(i + 1, t0, t1, t2, u0, u1, H'), ⟨by show i + 1 ≤ _; have := get_lt hx; omega, hM2, hR3, hBo2⟩, by have := get_lt hx; show ws.length - (i + 1) < ws.length - i; omega, (by repeat' (first | exact SLe.nil _ | refine SLe.cons rfl ?_ ?_ | exact Le.refl _ | exact Le.own _ _ _ | exact Le.nil _)), (by first | exact MLe.none _ | exact MLe.refl _ | (repeat' (first | exact MLe.nil | exact MLe.refl _ | refine MLe.cons _ ?_ | refine MLe.drop _ ?_)))⟩
            · refine c_cond_t rfl ?_
              refine c_seq ?_
              exact g144.elim
          · refine c_cond_t rfl ?_
            refine c_seq ?_
            exact g112.elim
      · refine c_cond_t rfl ?_
        refine c_seq ?_
        exact absurd g48 (by simp)
    · refine c_cond_t rfl ?_
      refine c_seq ?_
      refine c_region ?_
      refine AOps.st 6 rfl rfl rfl (op_assign rfl rfl ?_)
      refine AOps.nil ?_
      refine go_code ?_
      refine c_ret ?_
      exact out_tmp rfl rfl (Le.refl _) (MLe.none _) rfl
  · refine c_cond_t rfl ?_
    refine c_seq ?_
    exact absurd g25 (by simp)
theorem strsTwo_own : ownKnob Try.prog.godebug = none := by kernel_rfl
theorem strsTwo_laidOut : laidOutB Try.prog = true := by kernel_rfl
set_option maxRecDepth 100000 in
theorem strsTwo_lifted (os : Os) (started : os.Started) (H : Type) (enc : TypeId × Value → H) :
    ReturnsInHanded {} Try.checked os 7 .any (Rows.strsTwoSpec.pre6 enc Try.prog Try.f7 Rows.strsTwoRow.domain false) (Rows.strsTwoSpec.post enc Try.prog Try.f7 false true false false) := by
  refine returnsInHanded_of_change_sized (C := Try.checked) strsTwo_own started (by kernel_rfl) Try.func7
    (ChangeSpec.witness6 (enc := enc) (C := Try.checked) false ⟨#[], #[.slice none 0 0, .slice none 0 0, .int .i64 0], []⟩ 8 (by kernel_rfl) (by kernel_rfl) (by kernel_rfl) (by kernel_rfl)) ?_
  intro W base args ds gs before hval0 hW hcnd hsz0 _
  have hval : ∀ (j : Nat) t v, Try.f7.params[j]? = some t → args[j]? = some v → Value.okWide Try.prog W .any base t v := hval0
  have hsz : (DataW.weightsEach Try.prog (Try.f7.params.toList ++ Rows.strsTwoSpec.plain.varTypes Try.prog) (ds ++ gs)).all (· ≤ reachBytes) = true := hsz0
  have hW' := hW
  obtain ⟨p, q, hA0, hV, rfl, hfz, hnd⟩ := hW
  have hA : DataW.TrodAll enc Try.prog W 0 (fun _ => true) true Try.f7.params.toList args.toList ds p := hA0
  rw [Try.params7] at hA hval hsz
  obtain ⟨rfl, rfl⟩ := trodVars_none hV
  obtain ⟨v0, v1, v2, d0, d1, d2, p0, p1, p2, rfl, rfl, rfl, h0, h1, h2⟩ := trodAll_three hA
  obtain ⟨f0, c0, s0, r0, o0, _⟩ := open_two closedR hsz 0 rfl rfl (by decide) h0
  obtain ⟨l, rfl, hl⟩ := shapeL_sls s0
  obtain ⟨f1, c1, s1, r1, o1, _⟩ := open_two closedR hsz 1 rfl rfl (by decide) h1
  obtain ⟨r, rfl, hr, hrb⟩ := shapeL_rws s1
  obtain ⟨n, rfl, rfl, rfl, w_n⟩ := open_int Try.underlying3 (hval 2 3 v2 rfl rfl) h2
  refine (law_run (StrsTwo_c l r n hl hr hrb (by simp [Lit.wf, IntKind.max, IntKind.min, IntKind.signed, IntKind.bits] at w_n; omega)) (.cons (rel_cell (okw_slice Try.underlying57 (hval 0 57 v0 rfl rfl)) r0) (.cons (rel_cell (okw_slice Try.underlying58 (hval 1 58 v1 rfl rfl)) r1) (.cons (.val _) .nil)))).mono fun e W' ⟨he, hb⟩ => ?_
  subst he
  exact ⟨_, rfl, law_post (tb := 4) strsTwo_laidOut (by kernel_rfl) (by kernel_rfl) Try.underlying4 rfl rfl rfl rfl hW' hb⟩
theorem strsTwo_holds : Rows.StrsTwoSaid :=
  OpenClaim.holds_of_wide 7 Try.f7 rfl rfl rfl rfl rfl rfl rfl ⟨rfl, rfl, rfl, rfl, rfl⟩ rfl rfl rfl rfl rfl (by kernel_rfl) Try.func7 (by kernel_rfl)
    (of_decide_eq_true (by kernel_rfl)) (by unfold Func.isWrapper; first | (rw [if_pos (by decide +kernel)]; kernel_rfl) | (rw [if_neg (by decide +kernel)]; exact ⟨rfl, rfl⟩))
    (fun os started H enc _ => strsTwo_lifted os started H enc)
#print axioms strsTwo_holds
end Go.Proofs.Ytecpnlhjjmcllaa
