/- heap: Look, place, Part. -/
import Derived.Test.YtecpnlhjjmcllaaB31h
namespace Go.Proofs.Ytecpnlhjjmcllaa
open Go.RowKit
theorem at_some {H : List HO} {w : Int} {o : HO} (hu : used H ≤ 16777216) (h : objOf H w = some o) : ∃ a : Nat, atV w = (a : Int) ∧ atB (hb H) w = true ∧ 1 ≤ a ∧ a + o.parts.length < used H + 1 ∧ (hw H)[a]? = some o.head ∧ (∀ i, i < o.parts.length → (hw H)[a + 1 + i]? = o.parts[i]?) := by
  obtain ⟨a, h1, h2, h3, h4, h5, h6, h7⟩ := obj_at h
  have hok : atOk w = true := by unfold atOk; simp; omega
  have hv : atV w = (a : Int) := by unfold atV; rw [if_pos hok]; omega
  refine ⟨a, hv, ?_, h1, h3, h5, h6⟩
  unfold atB
  rw [hok, hv, hb_len, List.getD_eq_getElem?_getD, show ((a : Int).toNat) = a from rfl, h4]
  simp; omega
theorem at_none {H : List HO} {w : Int} (h : objOf H w = none) : atB (hb H) w = false := by
  cases q : atB (hb H) w with
  | false => rfl
  | true =>
    unfold atB at q
    simp only [Bool.and_eq_true, decide_eq_true_eq] at q
    obtain ⟨⟨⟨q1, q2⟩, q3⟩, q4⟩ := q
    have hv : atV w = w / 2 := by unfold atV; rw [if_pos q1]
    have he : w % 2 = 0 := by unfold atOk at q1; simp at q1; omega
    obtain ⟨a, ha⟩ : ∃ a : Nat, atV w = (a : Int) := ⟨(atV w).toNat, by omega⟩
    rw [ha] at q2 q3 q4
    rw [List.getD_eq_getElem?_getD, show ((a : Int).toNat) = a from rfl] at q4
    have h4 : (hb H)[a]? = some true := by
      cases z : (hb H)[a]? with
      | none => rw [z] at q4; cases q4
      | some y => rw [z] at q4; simp at q4; rw [q4]
    obtain ⟨o, ho⟩ := obj_begin (by omega) h4
    rw [show (2 * (a : Int)) = w by omega, h] at ho
    cases ho
theorem HO.open_ {o : HO} (h : o.ok) : openOk o.head = true ∧ openK o.head = o.kind ∧ openT o.head = o.tag ∧ openS o.head = o.parts.length := back_head _ _ _ h.1
def lookV (H : List HO) (w : Int) : AV := match objOf H w with
  | some o => .tup [.val (.int .i64 o.kind), .val (.int .i64 o.tag), .val (.int .i64 o.parts.length), .val (.bool true)]
  | none => .tup [.val (.int .i64 0), .val (.int .i64 0), .val (.int .i64 0), .val (.bool false)]
set_option maxHeartbeats 4000000 in
set_option maxRecDepth 100000 in
theorem Look_c (b : Nat) (sz : Int) (H : List HO) (M : Mem) (hM : HeapAt b sz H M) (h : 0 < sz) (hH : ∀ o ∈ H, o.ok) (hu : used H ≤ 16777216) (w : Int) (h0 : 0 ≤ w) (h1 : w ≤ 18446744073709551615) : KCall Try.prog 18 [.ptr b 0, .val (.int .u64 w)] M (lookV H w) := by
  obtain ⟨now, gw, cw, gb, cb, x, y, rfl⟩ := hM
  have hA := fun s n => at_c now b s n x y gw cw gb cb (used H + 1) (hw H) (hb H) w h0 h1 (hw_len H) (hb_len H)
  have hl := hw_len H
  have hlm : ((hw H).map iv).length = used H + 1 := by simpa using hl
  unfold lookV
  cases ho : objOf H w with
  | none =>
    rw [at_none ho] at hA
    simp only [Bool.false_eq_true, if_false] at hA
    generalize (hw H).map iv = EW at *
    cases now
    all_goals
      simp only [spc, Bool.false_eq_true, if_false, if_true] at hA ⊢
      refine ACall.enter Try.func18 rfl (by kernel_rfl) rfl (Nat.le_of_ble_eq_true rfl) ?_
      refine c_start ?_
      refine c_seq ?_
      refine c_region ?_
      refine AOps.st 4 rfl rfl rfl (op_assign rfl rfl ?_)
      refine AOps.st 5 rfl rfl rfl (op_assign rfl rfl ?_)
      refine AOps.st 6 rfl rfl rfl (op_assign rfl rfl ?_)
      refine AOps.st 7 rfl rfl rfl (op_assign rfl rfl ?_)
      refine AOps.nil ?_
      refine go_code ?_
      refine c_seq ?_
      refine c_seq ?_
      refine c_region ?_
      refine AOps.st 10 rfl rfl rfl (op_move rfl rfl ?_)
      refine AOps.st 11 rfl rfl rfl (op_callk (xs := [.tmp 10]) [0] rfl rfl rfl (is_c b sz _ rfl h) (by first | exact Les.refl _ | (repeat' (first | exact Les.refl _ | refine Les.cons ?_ ?_ | exact Le.refl _ | exact Le.own _ _ _ | exact Le.nil _ | refine Le.agg ?_))) ?_)
      refine AOps.st 12 rfl rfl rfl (op_notc rfl rfl ?_); intro c12 h12
      try replace h12 := nott h12 h11
      refine AOps.nil ?_
      refine go_code ?_
      rcases bool_split h12 with ⟨rfl, g12⟩ | ⟨rfl, g12⟩
      · refine c_cond_f rfl ?_
        refine c_skip ?_
        refine go_code ?_
        refine c_seq ?_
        refine c_drawn tmix rfl ?_
        refine DOps.st 13 rfl rfl (op_move rfl rfl ⟨rfl, rfl⟩) ?_
        refine DOps.st 14 rfl rfl (op_move rfl rfl ⟨rfl, rfl⟩) ?_
        first | (refine DOps.st 15 rfl rfl (op_nilCheck_m rfl rfl ⟨rfl, rfl⟩) ?_) | (refine DOps.st 15 rfl rfl (op_nilCheck_c rfl rfl ⟨rfl, rfl⟩) ?_) | (refine DOps.st 15 rfl rfl (op_nilCheck_f rfl rfl ⟨rfl, rfl⟩) ?_)
        first | (refine DOps.st 16 rfl rfl (op_fieldAddr_m rfl tf_81_2 rfl ⟨rfl, rfl⟩) ?_) | (refine DOps.st 16 rfl rfl (op_fieldAddr_c rfl tf_81_2 rfl rfl ⟨rfl, rfl⟩) ?_)
        first | (refine DOps.st 17 rfl rfl (op_load_m1 (i := 0) rfl ta_3 rfl rfl rfl ⟨rfl, rfl⟩) ?_) | (refine DOps.st 17 rfl rfl (op_load_m1 (i := 1) rfl ta_3 rfl rfl rfl ⟨rfl, rfl⟩) ?_) | (refine DOps.st 17 rfl rfl (op_load_m1 (i := 2) rfl ta_3 rfl rfl rfl ⟨rfl, rfl⟩) ?_) | (refine DOps.st 17 rfl rfl (op_load_m1 (i := 3) rfl ta_3 rfl rfl rfl ⟨rfl, rfl⟩) ?_) | (refine DOps.st 17 rfl rfl (op_load_m1 (i := 4) rfl ta_3 rfl rfl rfl ⟨rfl, rfl⟩) ?_) | (refine DOps.st 17 rfl rfl (op_load_m1 (i := 5) rfl ta_3 rfl rfl rfl ⟨rfl, rfl⟩) ?_) | (refine DOps.st 17 rfl rfl (op_load_m1 (i := 6) rfl ta_3 rfl rfl rfl ⟨rfl, rfl⟩) ?_) | (refine DOps.st 17 rfl rfl (op_load_m1 (i := 7) rfl ta_3 rfl rfl rfl ⟨rfl, rfl⟩) ?_) | (refine DOps.st 17 rfl rfl (op_load_m1 (i := 8) rfl ta_3 rfl rfl rfl ⟨rfl, rfl⟩) ?_) | (refine DOps.st 17 rfl rfl (op_load_m1 (i := 9) rfl ta_3 rfl rfl rfl ⟨rfl, rfl⟩) ?_) | (refine DOps.st 17 rfl rfl (op_load_c1 rfl ta_3 rfl rfl ⟨rfl, rfl⟩) ?_)
        first | (refine DOps.st 18 rfl rfl (op_nilCheck_m rfl rfl ⟨rfl, rfl⟩) ?_) | (refine DOps.st 18 rfl rfl (op_nilCheck_c rfl rfl ⟨rfl, rfl⟩) ?_) | (refine DOps.st 18 rfl rfl (op_nilCheck_f rfl rfl ⟨rfl, rfl⟩) ?_)
        first | (refine DOps.st 19 rfl rfl (op_fieldAddr_m rfl tf_81_1 rfl ⟨rfl, rfl⟩) ?_) | (refine DOps.st 19 rfl rfl (op_fieldAddr_c rfl tf_81_1 rfl rfl ⟨rfl, rfl⟩) ?_)
        first | (refine DOps.st 20 rfl rfl (op_index_arrm (k := 0) rfl tu_79 ts_77 rfl rfl rfl (by decide) ⟨rfl, rfl⟩) ?_) | (refine DOps.st 20 rfl rfl (op_index_arrm (k := 1) rfl tu_79 ts_77 rfl rfl rfl (by decide) ⟨rfl, rfl⟩) ?_)
        refine DOps.st 8 rfl rfl (op_assign rfl rfl ⟨rfl, rfl⟩) ?_
        show AGo _ _ _ _ _ _ _
        refine go_code ?_
        refine c_seq ?_
        refine c_region ?_
        refine AOps.st 22 rfl rfl rfl (op_move rfl rfl ?_)
        refine AOps.st 23 rfl rfl rfl (op_move rfl rfl ?_)
        refine AOps.st 24 rfl rfl rfl (op_callk (xs := [.tmp 22, .tmp 23]) [0,0,0] rfl rfl rfl (hA _ _) (by first | exact Les.refl _ | (repeat' (first | exact Les.refl _ | refine Les.cons ?_ ?_ | exact Le.refl _ | exact Le.own _ _ _ | exact Le.nil _ | refine Le.agg ?_))) ?_)
        refine AOps.st 21 rfl rfl rfl (op_move rfl rfl ?_)
        refine AOps.st 25 rfl rfl rfl (op_extract rfl rfl rfl ?_)
        refine AOps.st 26 rfl rfl rfl (op_extract rfl rfl rfl ?_)
        refine AOps.st 9 rfl rfl rfl (op_assign rfl rfl ?_)
        refine AOps.st 7 rfl rfl rfl (op_assign rfl rfl ?_)
        refine AOps.nil ?_
        refine go_code ?_
        refine c_seq ?_
        refine c_seq ?_
        refine c_region ?_
        refine AOps.st 27 rfl rfl rfl (op_move rfl rfl ?_)
        refine AOps.st 28 rfl rfl rfl (op_notc rfl rfl ?_); intro c28 h28
        try replace h28 := nott h28 h26
        refine AOps.nil ?_
        refine go_code ?_
        rcases bool_split h28 with ⟨rfl, g28⟩ | ⟨rfl, g28⟩
        · refine c_cond_f rfl ?_
          refine c_skip ?_
          refine go_code ?_
          refine c_seq ?_
          exact absurd h28 (by simp)
        · refine c_cond_t rfl ?_
          refine c_seq ?_
          refine c_region ?_
          refine AOps.st 4 rfl rfl rfl (op_assign rfl rfl ?_)
          refine AOps.st 5 rfl rfl rfl (op_assign rfl rfl ?_)
          refine AOps.st 6 rfl rfl rfl (op_assign rfl rfl ?_)
          refine AOps.st 7 rfl rfl rfl (op_assign rfl rfl ?_)
          refine AOps.nil ?_
          refine go_code ?_
          refine c_ret ?_
          exact out_tttt rfl rfl rfl rfl rfl (Le.refl _) (by first | exact MLe.none _ | exact MLe.refl _ | (repeat' (first | exact MLe.nil | exact MLe.refl _ | refine MLe.cons _ ?_ | refine MLe.drop _ ?_))) ⟨rfl, rfl⟩
      · refine c_cond_t rfl ?_
        refine c_seq ?_
        exact absurd h12 (by simp)
  | some o =>
    obtain ⟨a, ha, hb1, ha1, ha2, hwa, hwi⟩ := at_some hu ho
    have hmem : o ∈ H := (obj_at ho).choose_spec.2.2.2.2.2.2
    obtain ⟨e1, e2, e3, e4⟩ := HO.open_ (hH o hmem)
    have hO := Open_p o.head (headW_lo _ _ _) (headW_hi _ _ _)
    rw [e1, e2, e3, e4] at hO
    rw [hb1, ha] at hA
    simp only [if_true] at hA
    have hx : ((hw H).map iv)[a]? = some [.val (.int .u64 o.head)] := by rw [List.getElem?_map, hwa]; rfl
    generalize (hw H).map iv = EW at *
    cases now
    all_goals
      simp only [spc, Bool.false_eq_true, if_false, if_true] at hA ⊢
      refine ACall.enter Try.func18 rfl (by kernel_rfl) rfl (Nat.le_of_ble_eq_true rfl) ?_
      refine c_start ?_
      refine c_seq ?_
      refine c_region ?_
      refine AOps.st 4 rfl rfl rfl (op_assign rfl rfl ?_)
      refine AOps.st 5 rfl rfl rfl (op_assign rfl rfl ?_)
      refine AOps.st 6 rfl rfl rfl (op_assign rfl rfl ?_)
      refine AOps.st 7 rfl rfl rfl (op_assign rfl rfl ?_)
      refine AOps.nil ?_
      refine go_code ?_
      refine c_seq ?_
      refine c_seq ?_
      refine c_region ?_
      refine AOps.st 10 rfl rfl rfl (op_move rfl rfl ?_)
      refine AOps.st 11 rfl rfl rfl (op_callk (xs := [.tmp 10]) [0] rfl rfl rfl (is_c b sz _ rfl h) (by first | exact Les.refl _ | (repeat' (first | exact Les.refl _ | refine Les.cons ?_ ?_ | exact Le.refl _ | exact Le.own _ _ _ | exact Le.nil _ | refine Le.agg ?_))) ?_)
      refine AOps.st 12 rfl rfl rfl (op_notc rfl rfl ?_); intro c12 h12
      try replace h12 := nott h12 h11
      refine AOps.nil ?_
      refine go_code ?_
      rcases bool_split h12 with ⟨rfl, g12⟩ | ⟨rfl, g12⟩
      · refine c_cond_f rfl ?_
        refine c_skip ?_
        refine go_code ?_
        refine c_seq ?_
        refine c_drawn tmix rfl ?_
        refine DOps.st 13 rfl rfl (op_move rfl rfl ⟨rfl, rfl⟩) ?_
        refine DOps.st 14 rfl rfl (op_move rfl rfl ⟨rfl, rfl⟩) ?_
        first | (refine DOps.st 15 rfl rfl (op_nilCheck_m rfl rfl ⟨rfl, rfl⟩) ?_) | (refine DOps.st 15 rfl rfl (op_nilCheck_c rfl rfl ⟨rfl, rfl⟩) ?_) | (refine DOps.st 15 rfl rfl (op_nilCheck_f rfl rfl ⟨rfl, rfl⟩) ?_)
        first | (refine DOps.st 16 rfl rfl (op_fieldAddr_m rfl tf_81_2 rfl ⟨rfl, rfl⟩) ?_) | (refine DOps.st 16 rfl rfl (op_fieldAddr_c rfl tf_81_2 rfl rfl ⟨rfl, rfl⟩) ?_)
        first | (refine DOps.st 17 rfl rfl (op_load_m1 (i := 0) rfl ta_3 rfl rfl rfl ⟨rfl, rfl⟩) ?_) | (refine DOps.st 17 rfl rfl (op_load_m1 (i := 1) rfl ta_3 rfl rfl rfl ⟨rfl, rfl⟩) ?_) | (refine DOps.st 17 rfl rfl (op_load_m1 (i := 2) rfl ta_3 rfl rfl rfl ⟨rfl, rfl⟩) ?_) | (refine DOps.st 17 rfl rfl (op_load_m1 (i := 3) rfl ta_3 rfl rfl rfl ⟨rfl, rfl⟩) ?_) | (refine DOps.st 17 rfl rfl (op_load_m1 (i := 4) rfl ta_3 rfl rfl rfl ⟨rfl, rfl⟩) ?_) | (refine DOps.st 17 rfl rfl (op_load_m1 (i := 5) rfl ta_3 rfl rfl rfl ⟨rfl, rfl⟩) ?_) | (refine DOps.st 17 rfl rfl (op_load_m1 (i := 6) rfl ta_3 rfl rfl rfl ⟨rfl, rfl⟩) ?_) | (refine DOps.st 17 rfl rfl (op_load_m1 (i := 7) rfl ta_3 rfl rfl rfl ⟨rfl, rfl⟩) ?_) | (refine DOps.st 17 rfl rfl (op_load_m1 (i := 8) rfl ta_3 rfl rfl rfl ⟨rfl, rfl⟩) ?_) | (refine DOps.st 17 rfl rfl (op_load_m1 (i := 9) rfl ta_3 rfl rfl rfl ⟨rfl, rfl⟩) ?_) | (refine DOps.st 17 rfl rfl (op_load_c1 rfl ta_3 rfl rfl ⟨rfl, rfl⟩) ?_)
        first | (refine DOps.st 18 rfl rfl (op_nilCheck_m rfl rfl ⟨rfl, rfl⟩) ?_) | (refine DOps.st 18 rfl rfl (op_nilCheck_c rfl rfl ⟨rfl, rfl⟩) ?_) | (refine DOps.st 18 rfl rfl (op_nilCheck_f rfl rfl ⟨rfl, rfl⟩) ?_)
        first | (refine DOps.st 19 rfl rfl (op_fieldAddr_m rfl tf_81_1 rfl ⟨rfl, rfl⟩) ?_) | (refine DOps.st 19 rfl rfl (op_fieldAddr_c rfl tf_81_1 rfl rfl ⟨rfl, rfl⟩) ?_)
        first | (refine DOps.st 20 rfl rfl (op_index_arrm (k := 0) rfl tu_79 ts_77 rfl rfl rfl (by decide) ⟨rfl, rfl⟩) ?_) | (refine DOps.st 20 rfl rfl (op_index_arrm (k := 1) rfl tu_79 ts_77 rfl rfl rfl (by decide) ⟨rfl, rfl⟩) ?_)
        refine DOps.st 8 rfl rfl (op_assign rfl rfl ⟨rfl, rfl⟩) ?_
        show AGo _ _ _ _ _ _ _
        refine go_code ?_
        refine c_seq ?_
        refine c_region ?_
        refine AOps.st 22 rfl rfl rfl (op_move rfl rfl ?_)
        refine AOps.st 23 rfl rfl rfl (op_move rfl rfl ?_)
        refine AOps.st 24 rfl rfl rfl (op_callk (xs := [.tmp 22, .tmp 23]) [0,0,0] rfl rfl rfl (hA _ _) (by first | exact Les.refl _ | (repeat' (first | exact Les.refl _ | refine Les.cons ?_ ?_ | exact Le.refl _ | exact Le.own _ _ _ | exact Le.nil _ | refine Le.agg ?_))) ?_)
        refine AOps.st 21 rfl rfl rfl (op_move rfl rfl ?_)
        refine AOps.st 25 rfl rfl rfl (op_extract rfl rfl rfl ?_)
        refine AOps.st 26 rfl rfl rfl (op_extract rfl rfl rfl ?_)
        refine AOps.st 9 rfl rfl rfl (op_assign rfl rfl ?_)
        refine AOps.st 7 rfl rfl rfl (op_assign rfl rfl ?_)
        refine AOps.nil ?_
        refine go_code ?_
        refine c_seq ?_
        refine c_seq ?_
        refine c_region ?_
        refine AOps.st 27 rfl rfl rfl (op_move rfl rfl ?_)
        refine AOps.st 28 rfl rfl rfl (op_notc rfl rfl ?_); intro c28 h28
        try replace h28 := nott h28 h26
        refine AOps.nil ?_
        refine go_code ?_
        rcases bool_split h28 with ⟨rfl, g28⟩ | ⟨rfl, g28⟩
        · refine c_cond_f rfl ?_
          refine c_skip ?_
          refine go_code ?_
          refine c_seq ?_
          refine c_region ?_
          refine AOps.st 29 rfl rfl rfl (op_move rfl rfl ?_)
          first | (refine AOps.st 30 rfl rfl rfl (op_nilCheck_m rfl rfl ?_)) | (refine AOps.st 30 rfl rfl rfl (op_nilCheck_c rfl rfl ?_)) | (refine AOps.st 30 rfl rfl rfl (op_nilCheck_f rfl rfl ?_))
          first | (refine AOps.st 31 rfl rfl rfl (op_fieldAddr_m rfl tf_77_0 rfl ?_)) | (refine AOps.st 31 rfl rfl rfl (op_fieldAddr_c rfl tf_77_0 rfl rfl ?_))
          first | (refine AOps.st 32 rfl rfl rfl (op_load_m1 (i := 0) rfl ta_34 rfl rfl rfl ?_)) | (refine AOps.st 32 rfl rfl rfl (op_load_m1 (i := 1) rfl ta_34 rfl rfl rfl ?_)) | (refine AOps.st 32 rfl rfl rfl (op_load_m1 (i := 2) rfl ta_34 rfl rfl rfl ?_)) | (refine AOps.st 32 rfl rfl rfl (op_load_m1 (i := 3) rfl ta_34 rfl rfl rfl ?_)) | (refine AOps.st 32 rfl rfl rfl (op_load_m1 (i := 4) rfl ta_34 rfl rfl rfl ?_)) | (refine AOps.st 32 rfl rfl rfl (op_load_m1 (i := 5) rfl ta_34 rfl rfl rfl ?_)) | (refine AOps.st 32 rfl rfl rfl (op_load_m1 (i := 6) rfl ta_34 rfl rfl rfl ?_)) | (refine AOps.st 32 rfl rfl rfl (op_load_m1 (i := 7) rfl ta_34 rfl rfl rfl ?_)) | (refine AOps.st 32 rfl rfl rfl (op_load_m1 (i := 8) rfl ta_34 rfl rfl rfl ?_)) | (refine AOps.st 32 rfl rfl rfl (op_load_m1 (i := 9) rfl ta_34 rfl rfl rfl ?_)) | (refine AOps.st 32 rfl rfl rfl (op_load_c1 rfl ta_34 rfl rfl ?_))
          refine AOps.st 33 rfl rfl rfl (op_move rfl rfl ?_)
          refine AOps.st 34 rfl rfl rfl (op_index_row (i := 1) (k := a) rfl te_34 rfl rfl rfl (by first | rfl | omega) (by omega) ?_)
          refine AOps.st 35 rfl rfl rfl (op_load_row1 (i := 1) (k := a) (f := 0) rfl ta_42 rfl rfl rfl (hx) rfl ?_)
          refine AOps.st 36 rfl rfl rfl (op_callp (xs := [.tmp 35]) rfl rfl (hO) (by first | exact Les.refl _ | (repeat' (first | exact Les.refl _ | refine Les.cons ?_ ?_ | exact Le.refl _ | exact Le.own _ _ _ | exact Le.nil _ | refine Le.agg ?_))) ?_)
          refine AOps.st 37 rfl rfl rfl (op_extract rfl rfl rfl ?_)
          refine AOps.st 38 rfl rfl rfl (op_extract rfl rfl rfl ?_)
          refine AOps.st 39 rfl rfl rfl (op_extract rfl rfl rfl ?_)
          refine AOps.st 40 rfl rfl rfl (op_extract rfl rfl rfl ?_)
          refine AOps.st 4 rfl rfl rfl (op_assign rfl rfl ?_)
          refine AOps.st 5 rfl rfl rfl (op_assign rfl rfl ?_)
          refine AOps.st 6 rfl rfl rfl (op_assign rfl rfl ?_)
          refine AOps.st 7 rfl rfl rfl (op_assign rfl rfl ?_)
          refine AOps.nil ?_
          refine go_code ?_
          refine c_ret ?_
          exact out_tttt rfl rfl rfl rfl rfl (Le.refl _) (by first | exact MLe.none _ | exact MLe.refl _ | (repeat' (first | exact MLe.nil | exact MLe.refl _ | refine MLe.cons _ ?_ | refine MLe.drop _ ?_))) ⟨rfl, rfl⟩
        · refine c_cond_t rfl ?_
          refine c_seq ?_
          exact absurd h28 (by simp)
      · refine c_cond_t rfl ?_
        refine c_seq ?_
        exact absurd h12 (by simp)
set_option maxHeartbeats 4000000 in
set_option maxRecDepth 100000 in
theorem place_some (now : Bool) (b gw cw gb cb : Nat) (x y : AV) (sz : Int) (H : List HO) (h : 0 < sz) (hH : ∀ o ∈ H, o.ok) (hu : used H ≤ 16777216) (w : Int) (h0 : 0 ≤ w) (h1 : w ≤ 18446744073709551615) (o : HO) (ho : objOf H w = some o) (a : Nat) (ha : atV w = (a : Int)) (i : Nat) (hi : i < o.parts.length) (M : Mem)
    (hM : M = [.loc b (spc now (.val (.int .i64 sz)) (nowV now) (.val (rowv gw (used H + 1) cw)) (.val (rowv gb (used H + 1) cb)) x y), .row 42 1 (rowv gw (used H + 1) cw) ((hw H).map iv), .row 4 1 (rowv gb (used H + 1) cb) ((hb H).map bv)]) :
    KCall Try.prog 50 [.ptr b 0, .val (.int .u64 w), .val (.int .i64 i)] M (.tup [.ptr gw ((a + 1 + i) * 1), .val (.bool true)]) := by
  have hL := Look_c b sz H M ⟨now, gw, cw, gb, cb, x, y, hM⟩ h hH hu w h0 h1
  subst hM
  have hA := fun s n => at_c now b s n x y gw cw gb cb (used H + 1) (hw H) (hb H) w h0 h1 (hw_len H) (hb_len H)
  have hl := hw_len H
  have hlm : ((hw H).map iv).length = used H + 1 := by simpa using hl
  obtain ⟨a', ha', hb1, ha1, ha2, _, _⟩ := at_some hu ho
  have : a' = a := by omega
  subst this
  unfold lookV at hL
  rw [ho] at hL
  rw [hb1, ha] at hA
  simp only [if_true] at hA hL
  generalize (hw H).map iv = EW at *
  cases now
  all_goals
    simp only [spc, Bool.false_eq_true, if_false, if_true] at hA hL ⊢
    refine ACall.enter Try.func50 rfl (by kernel_rfl) rfl (Nat.le_of_ble_eq_true rfl) ?_
    refine c_start ?_
    refine c_seq ?_
    refine c_region ?_
    refine AOps.st 6 rfl rfl rfl (op_assign rfl rfl ?_)
    refine AOps.st 7 rfl rfl rfl (op_assign rfl rfl ?_)
    refine AOps.nil ?_
    refine go_code ?_
    refine c_seq ?_
    refine c_region ?_
    refine AOps.st 16 rfl rfl rfl (op_move rfl rfl ?_)
    refine AOps.st 17 rfl rfl rfl (op_move rfl rfl ?_)
    refine AOps.st 18 rfl rfl rfl (op_callk (xs := [.tmp 16, .tmp 17]) [0,0,0] rfl rfl rfl (hL) (by first | exact Les.refl _ | (repeat' (first | exact Les.refl _ | refine Les.cons ?_ ?_ | exact Le.refl _ | exact Le.own _ _ _ | exact Le.nil _ | refine Le.agg ?_))) ?_)
    refine AOps.st 15 rfl rfl rfl (op_move rfl rfl ?_)
    refine AOps.st 19 rfl rfl rfl (op_extract rfl rfl rfl ?_)
    refine AOps.st 20 rfl rfl rfl (op_extract rfl rfl rfl ?_)
    refine AOps.st 21 rfl rfl rfl (op_extract rfl rfl rfl ?_)
    refine AOps.st 22 rfl rfl rfl (op_extract rfl rfl rfl ?_)
    refine AOps.st 8 rfl rfl rfl (op_assign rfl rfl ?_)
    refine AOps.st 9 rfl rfl rfl (op_assign rfl rfl ?_)
    refine AOps.st 10 rfl rfl rfl (op_assign rfl rfl ?_)
    refine AOps.st 11 rfl rfl rfl (op_assign rfl rfl ?_)
    refine AOps.nil ?_
    refine go_code ?_
    refine c_seq ?_
    refine c_seq ?_
    refine c_bool 33 (False) ?_ _ _ rfl ?_
    · skip
      refine AOps.st 23 rfl rfl rfl (op_move rfl rfl ?_)
      refine AOps.st 24 rfl rfl rfl (op_notc rfl rfl ?_); intro c24 h24
      try replace h24 := nott h24 h22
      refine AOps.st 25 rfl rfl rfl (op_move rfl rfl ?_)
      rcases bool_split h24 with ⟨rfl, g24⟩ | ⟨rfl, g24⟩
      · skip
        refine AOps.gt 26 rfl rfl rfl rfl rfl (op_move rfl rfl ?_)
        refine AOps.gt 27 rfl rfl rfl rfl rfl (op_lss rfl rfl rfl ?_); intro c27 h27
        refine AOps.st 28 rfl rfl rfl (op_pick rfl rfl rfl ?_)
        refine AOps.st 29 rfl rfl rfl (op_move rfl rfl ?_)
        rcases bool_split h27 with ⟨rfl, g27⟩ | ⟨rfl, g27⟩
        · skip
          refine AOps.gt 30 rfl rfl rfl rfl rfl (op_move rfl rfl ?_)
          refine AOps.gt 31 rfl rfl rfl rfl rfl (op_move rfl rfl ?_)
          refine AOps.gt 32 rfl rfl rfl rfl rfl (op_geq rfl rfl rfl ?_); intro c32 h32
          refine AOps.st 33 rfl rfl rfl (op_pick rfl rfl rfl ?_)
          refine AOps.nil ?_
          refine BoolQ.mk rfl ?_ (by repeat' (first | exact SLe.wo _ _ | exact SLe.refl _ | refine SLe.fresh rfl ?_)) (by first | exact MLe.none _ | exact MLe.refl _ | (repeat' (first | exact MLe.nil | exact MLe.refl _ | refine MLe.cons _ ?_ | refine MLe.drop _ ?_)))
          first | (simp_all; done) | (simp_all; omega)
        · skip
          refine AOps.gf 30 rfl rfl rfl rfl rfl ?_
          refine AOps.gf 31 rfl rfl rfl rfl rfl ?_
          refine AOps.gf 32 rfl rfl rfl rfl rfl ?_
          refine AOps.st 33 rfl rfl rfl (op_pick rfl rfl rfl ?_)
          refine AOps.nil ?_
          refine BoolQ.mk rfl ?_ (by repeat' (first | exact SLe.wo _ _ | exact SLe.refl _ | refine SLe.fresh rfl ?_)) (by first | exact MLe.none _ | exact MLe.refl _ | (repeat' (first | exact MLe.nil | exact MLe.refl _ | refine MLe.cons _ ?_ | refine MLe.drop _ ?_)))
          first | (simp_all; done) | (simp_all; omega)
      · skip
        refine AOps.gf 26 rfl rfl rfl rfl rfl ?_
        refine AOps.gf 27 rfl rfl rfl rfl rfl ?_
        refine AOps.st 28 rfl rfl rfl (op_pick rfl rfl rfl ?_)
        refine AOps.st 29 rfl rfl rfl (op_move rfl rfl ?_)
        refine AOps.gf 30 rfl rfl rfl rfl rfl ?_
        refine AOps.gf 31 rfl rfl rfl rfl rfl ?_
        refine AOps.gf 32 rfl rfl rfl rfl rfl ?_
        refine AOps.st 33 rfl rfl rfl (op_pick rfl rfl rfl ?_)
        refine AOps.nil ?_
        refine BoolQ.mk rfl ?_ (by repeat' (first | exact SLe.wo _ _ | exact SLe.refl _ | refine SLe.fresh rfl ?_)) (by first | exact MLe.none _ | exact MLe.refl _ | (repeat' (first | exact MLe.nil | exact MLe.refl _ | refine MLe.cons _ ?_ | refine MLe.drop _ ?_)))
        first | (simp_all; done) | (simp_all; omega)
    intro c33 h33
    refine go_code ?_
    rcases bool_split h33 with ⟨rfl, g33⟩ | ⟨rfl, g33⟩
    · refine c_cond_f rfl ?_
      refine c_skip ?_
      refine go_code ?_
      refine c_seq ?_
      refine c_drawn tmix rfl ?_
      refine DOps.st 34 rfl rfl (op_move rfl rfl ⟨rfl, rfl⟩) ?_
      refine DOps.st 35 rfl rfl (op_move rfl rfl ⟨rfl, rfl⟩) ?_
      first | (refine DOps.st 36 rfl rfl (op_nilCheck_m rfl rfl ⟨rfl, rfl⟩) ?_) | (refine DOps.st 36 rfl rfl (op_nilCheck_c rfl rfl ⟨rfl, rfl⟩) ?_) | (refine DOps.st 36 rfl rfl (op_nilCheck_f rfl rfl ⟨rfl, rfl⟩) ?_)
      first | (refine DOps.st 37 rfl rfl (op_fieldAddr_m rfl tf_81_2 rfl ⟨rfl, rfl⟩) ?_) | (refine DOps.st 37 rfl rfl (op_fieldAddr_c rfl tf_81_2 rfl rfl ⟨rfl, rfl⟩) ?_)
      first | (refine DOps.st 38 rfl rfl (op_load_m1 (i := 0) rfl ta_3 rfl rfl rfl ⟨rfl, rfl⟩) ?_) | (refine DOps.st 38 rfl rfl (op_load_m1 (i := 1) rfl ta_3 rfl rfl rfl ⟨rfl, rfl⟩) ?_) | (refine DOps.st 38 rfl rfl (op_load_m1 (i := 2) rfl ta_3 rfl rfl rfl ⟨rfl, rfl⟩) ?_) | (refine DOps.st 38 rfl rfl (op_load_m1 (i := 3) rfl ta_3 rfl rfl rfl ⟨rfl, rfl⟩) ?_) | (refine DOps.st 38 rfl rfl (op_load_m1 (i := 4) rfl ta_3 rfl rfl rfl ⟨rfl, rfl⟩) ?_) | (refine DOps.st 38 rfl rfl (op_load_m1 (i := 5) rfl ta_3 rfl rfl rfl ⟨rfl, rfl⟩) ?_) | (refine DOps.st 38 rfl rfl (op_load_m1 (i := 6) rfl ta_3 rfl rfl rfl ⟨rfl, rfl⟩) ?_) | (refine DOps.st 38 rfl rfl (op_load_m1 (i := 7) rfl ta_3 rfl rfl rfl ⟨rfl, rfl⟩) ?_) | (refine DOps.st 38 rfl rfl (op_load_m1 (i := 8) rfl ta_3 rfl rfl rfl ⟨rfl, rfl⟩) ?_) | (refine DOps.st 38 rfl rfl (op_load_m1 (i := 9) rfl ta_3 rfl rfl rfl ⟨rfl, rfl⟩) ?_) | (refine DOps.st 38 rfl rfl (op_load_c1 rfl ta_3 rfl rfl ⟨rfl, rfl⟩) ?_)
      first | (refine DOps.st 39 rfl rfl (op_nilCheck_m rfl rfl ⟨rfl, rfl⟩) ?_) | (refine DOps.st 39 rfl rfl (op_nilCheck_c rfl rfl ⟨rfl, rfl⟩) ?_) | (refine DOps.st 39 rfl rfl (op_nilCheck_f rfl rfl ⟨rfl, rfl⟩) ?_)
      first | (refine DOps.st 40 rfl rfl (op_fieldAddr_m rfl tf_81_1 rfl ⟨rfl, rfl⟩) ?_) | (refine DOps.st 40 rfl rfl (op_fieldAddr_c rfl tf_81_1 rfl rfl ⟨rfl, rfl⟩) ?_)
      first | (refine DOps.st 41 rfl rfl (op_index_arrm (k := 0) rfl tu_79 ts_77 rfl rfl rfl (by decide) ⟨rfl, rfl⟩) ?_) | (refine DOps.st 41 rfl rfl (op_index_arrm (k := 1) rfl tu_79 ts_77 rfl rfl rfl (by decide) ⟨rfl, rfl⟩) ?_)
      refine DOps.st 12 rfl rfl (op_assign rfl rfl ⟨rfl, rfl⟩) ?_
      show AGo _ _ _ _ _ _ _
      refine go_code ?_
      refine c_seq ?_
      refine c_region ?_
      refine AOps.st 43 rfl rfl rfl (op_move rfl rfl ?_)
      refine AOps.st 44 rfl rfl rfl (op_move rfl rfl ?_)
      refine AOps.st 45 rfl rfl rfl (op_callk (xs := [.tmp 43, .tmp 44]) [0,0,0] rfl rfl rfl (hA _ _) (by first | exact Les.refl _ | (repeat' (first | exact Les.refl _ | refine Les.cons ?_ ?_ | exact Le.refl _ | exact Le.own _ _ _ | exact Le.nil _ | refine Le.agg ?_))) ?_)
      refine AOps.st 42 rfl rfl rfl (op_move rfl rfl ?_)
      refine AOps.st 46 rfl rfl rfl (op_extract rfl rfl rfl ?_)
      refine AOps.st 47 rfl rfl rfl (op_extract rfl rfl rfl ?_)
      refine AOps.st 13 rfl rfl rfl (op_assign rfl rfl ?_)
      refine AOps.st 14 rfl rfl rfl (op_assign rfl rfl ?_)
      refine AOps.nil ?_
      refine go_code ?_
      refine c_seq ?_
      refine c_region ?_
      refine AOps.st 48 rfl rfl rfl (op_move rfl rfl ?_)
      first | (refine AOps.st 49 rfl rfl rfl (op_nilCheck_m rfl rfl ?_)) | (refine AOps.st 49 rfl rfl rfl (op_nilCheck_c rfl rfl ?_)) | (refine AOps.st 49 rfl rfl rfl (op_nilCheck_f rfl rfl ?_))
      first | (refine AOps.st 50 rfl rfl rfl (op_fieldAddr_m rfl tf_77_0 rfl ?_)) | (refine AOps.st 50 rfl rfl rfl (op_fieldAddr_c rfl tf_77_0 rfl rfl ?_))
      first | (refine AOps.st 51 rfl rfl rfl (op_load_m1 (i := 0) rfl ta_34 rfl rfl rfl ?_)) | (refine AOps.st 51 rfl rfl rfl (op_load_m1 (i := 1) rfl ta_34 rfl rfl rfl ?_)) | (refine AOps.st 51 rfl rfl rfl (op_load_m1 (i := 2) rfl ta_34 rfl rfl rfl ?_)) | (refine AOps.st 51 rfl rfl rfl (op_load_m1 (i := 3) rfl ta_34 rfl rfl rfl ?_)) | (refine AOps.st 51 rfl rfl rfl (op_load_m1 (i := 4) rfl ta_34 rfl rfl rfl ?_)) | (refine AOps.st 51 rfl rfl rfl (op_load_m1 (i := 5) rfl ta_34 rfl rfl rfl ?_)) | (refine AOps.st 51 rfl rfl rfl (op_load_m1 (i := 6) rfl ta_34 rfl rfl rfl ?_)) | (refine AOps.st 51 rfl rfl rfl (op_load_m1 (i := 7) rfl ta_34 rfl rfl rfl ?_)) | (refine AOps.st 51 rfl rfl rfl (op_load_m1 (i := 8) rfl ta_34 rfl rfl rfl ?_)) | (refine AOps.st 51 rfl rfl rfl (op_load_m1 (i := 9) rfl ta_34 rfl rfl rfl ?_)) | (refine AOps.st 51 rfl rfl rfl (op_load_c1 rfl ta_34 rfl rfl ?_))
      refine AOps.st 52 rfl rfl rfl (op_move rfl rfl ?_)
      first | (refine AOps.st 53 rfl rfl rfl (op_add rfl rfl rfl (IntWalk.i64_in _ (by omega)) ?_)) | (refine AOps.st 53 rfl rfl rfl (op_add rfl rfl rfl rfl ?_))
      refine AOps.st 54 rfl rfl rfl (op_move rfl rfl ?_)
      first | (refine AOps.st 55 rfl rfl rfl (op_add rfl rfl rfl (IntWalk.i64_in _ (by omega)) ?_)) | (refine AOps.st 55 rfl rfl rfl (op_add rfl rfl rfl rfl ?_))
      refine AOps.st 56 rfl rfl rfl (op_index_row (i := 1) (k := a' + 1 + i) rfl te_34 rfl rfl rfl (by first | rfl | omega) (by omega) ?_)
      refine AOps.st 6 rfl rfl rfl (op_assign rfl rfl ?_)
      refine AOps.st 7 rfl rfl rfl (op_assign rfl rfl ?_)
      refine AOps.nil ?_
      refine go_code ?_
      refine c_ret ?_
      exact out_tt rfl rfl rfl (Le.refl _) (by first | exact MLe.none _ | exact MLe.refl _ | (repeat' (first | exact MLe.nil | exact MLe.refl _ | refine MLe.cons _ ?_ | refine MLe.drop _ ?_))) ⟨rfl, rfl⟩
    · refine c_cond_t rfl ?_
      refine c_seq ?_
      exact g33.elim
set_option maxHeartbeats 4000000 in
set_option maxRecDepth 100000 in
theorem place_none (b : Nat) (sz : Int) (H : List HO) (h : 0 < sz) (hH : ∀ o ∈ H, o.ok) (hu : used H ≤ 16777216) (w : Int) (h0 : 0 ≤ w) (h1 : w ≤ 18446744073709551615) (i : Int) (hn : ∀ o, objOf H w = some o → ¬ (0 ≤ i ∧ i < o.parts.length)) (M : Mem) (hM : HeapAt b sz H M) :
    KCall Try.prog 50 [.ptr b 0, .val (.int .u64 w), .val (.int .i64 i)] M (.tup [.val (.pointer none), .val (.bool false)]) := by
  have hL := Look_c b sz H M hM h hH hu w h0 h1
  obtain ⟨now, gw, cw, gb, cb, x, y, rfl⟩ := hM
  unfold lookV at hL
  cases ho : objOf H w with
  | none =>
    rw [ho] at hL
    simp only at hL
    refine ACall.enter Try.func50 rfl (by kernel_rfl) rfl (Nat.le_of_ble_eq_true rfl) ?_
    refine c_start ?_
    refine c_seq ?_
    refine c_region ?_
    refine AOps.st 6 rfl rfl rfl (op_assign rfl rfl ?_)
    refine AOps.st 7 rfl rfl rfl (op_assign rfl rfl ?_)
    refine AOps.nil ?_
    refine go_code ?_
    refine c_seq ?_
    refine c_region ?_
    refine AOps.st 16 rfl rfl rfl (op_move rfl rfl ?_)
    refine AOps.st 17 rfl rfl rfl (op_move rfl rfl ?_)
    refine AOps.st 18 rfl rfl rfl (op_callk (xs := [.tmp 16, .tmp 17]) [0,0,0] rfl rfl rfl (hL) (by first | exact Les.refl _ | (repeat' (first | exact Les.refl _ | refine Les.cons ?_ ?_ | exact Le.refl _ | exact Le.own _ _ _ | exact Le.nil _ | refine Le.agg ?_))) ?_)
    refine AOps.st 15 rfl rfl rfl (op_move rfl rfl ?_)
    refine AOps.st 19 rfl rfl rfl (op_extract rfl rfl rfl ?_)
    refine AOps.st 20 rfl rfl rfl (op_extract rfl rfl rfl ?_)
    refine AOps.st 21 rfl rfl rfl (op_extract rfl rfl rfl ?_)
    refine AOps.st 22 rfl rfl rfl (op_extract rfl rfl rfl ?_)
    refine AOps.st 8 rfl rfl rfl (op_assign rfl rfl ?_)
    refine AOps.st 9 rfl rfl rfl (op_assign rfl rfl ?_)
    refine AOps.st 10 rfl rfl rfl (op_assign rfl rfl ?_)
    refine AOps.st 11 rfl rfl rfl (op_assign rfl rfl ?_)
    refine AOps.nil ?_
    refine go_code ?_
    refine c_seq ?_
    refine c_seq ?_
    refine c_bool 33 (True) ?_ _ _ rfl ?_
    · skip
      refine AOps.st 23 rfl rfl rfl (op_move rfl rfl ?_)
      refine AOps.st 24 rfl rfl rfl (op_notc rfl rfl ?_); intro c24 h24
      try replace h24 := nott h24 h22
      refine AOps.st 25 rfl rfl rfl (op_move rfl rfl ?_)
      rcases bool_split h24 with ⟨rfl, g24⟩ | ⟨rfl, g24⟩
      · skip
        refine AOps.gt 26 rfl rfl rfl rfl rfl (op_move rfl rfl ?_)
        refine AOps.gt 27 rfl rfl rfl rfl rfl (op_lss rfl rfl rfl ?_); intro c27 h27
        refine AOps.st 28 rfl rfl rfl (op_pick rfl rfl rfl ?_)
        refine AOps.st 29 rfl rfl rfl (op_move rfl rfl ?_)
        rcases bool_split h27 with ⟨rfl, g27⟩ | ⟨rfl, g27⟩
        · skip
          refine AOps.gt 30 rfl rfl rfl rfl rfl (op_move rfl rfl ?_)
          refine AOps.gt 31 rfl rfl rfl rfl rfl (op_move rfl rfl ?_)
          refine AOps.gt 32 rfl rfl rfl rfl rfl (op_geq rfl rfl rfl ?_); intro c32 h32
          refine AOps.st 33 rfl rfl rfl (op_pick rfl rfl rfl ?_)
          refine AOps.nil ?_
          refine BoolQ.mk rfl ?_ (by repeat' (first | exact SLe.wo _ _ | exact SLe.refl _ | refine SLe.fresh rfl ?_)) (by first | exact MLe.none _ | exact MLe.refl _ | (repeat' (first | exact MLe.nil | exact MLe.refl _ | refine MLe.cons _ ?_ | refine MLe.drop _ ?_)))
          first | (simp_all; done) | (simp_all; omega)
        · skip
          refine AOps.gf 30 rfl rfl rfl rfl rfl ?_
          refine AOps.gf 31 rfl rfl rfl rfl rfl ?_
          refine AOps.gf 32 rfl rfl rfl rfl rfl ?_
          refine AOps.st 33 rfl rfl rfl (op_pick rfl rfl rfl ?_)
          refine AOps.nil ?_
          refine BoolQ.mk rfl ?_ (by repeat' (first | exact SLe.wo _ _ | exact SLe.refl _ | refine SLe.fresh rfl ?_)) (by first | exact MLe.none _ | exact MLe.refl _ | (repeat' (first | exact MLe.nil | exact MLe.refl _ | refine MLe.cons _ ?_ | refine MLe.drop _ ?_)))
          first | (simp_all; done) | (simp_all; omega)
      · skip
        refine AOps.gf 26 rfl rfl rfl rfl rfl ?_
        refine AOps.gf 27 rfl rfl rfl rfl rfl ?_
        refine AOps.st 28 rfl rfl rfl (op_pick rfl rfl rfl ?_)
        refine AOps.st 29 rfl rfl rfl (op_move rfl rfl ?_)
        refine AOps.gf 30 rfl rfl rfl rfl rfl ?_
        refine AOps.gf 31 rfl rfl rfl rfl rfl ?_
        refine AOps.gf 32 rfl rfl rfl rfl rfl ?_
        refine AOps.st 33 rfl rfl rfl (op_pick rfl rfl rfl ?_)
        refine AOps.nil ?_
        refine BoolQ.mk rfl ?_ (by repeat' (first | exact SLe.wo _ _ | exact SLe.refl _ | refine SLe.fresh rfl ?_)) (by first | exact MLe.none _ | exact MLe.refl _ | (repeat' (first | exact MLe.nil | exact MLe.refl _ | refine MLe.cons _ ?_ | refine MLe.drop _ ?_)))
        first | (simp_all; done) | (simp_all; omega)
    intro c33 h33
    refine go_code ?_
    rcases bool_split h33 with ⟨rfl, g33⟩ | ⟨rfl, g33⟩
    · refine c_cond_f rfl ?_
      refine c_skip ?_
      refine go_code ?_
      refine c_seq ?_
      exact absurd trivial g33
    · refine c_cond_t rfl ?_
      refine c_seq ?_
      refine c_region ?_
      refine AOps.st 6 rfl rfl rfl (op_assign rfl rfl ?_)
      refine AOps.st 7 rfl rfl rfl (op_assign rfl rfl ?_)
      refine AOps.nil ?_
      refine go_code ?_
      refine c_ret ?_
      exact out_tt rfl rfl rfl (Le.refl _) (by first | exact MLe.none _ | exact MLe.refl _ | (repeat' (first | exact MLe.nil | exact MLe.refl _ | refine MLe.cons _ ?_ | refine MLe.drop _ ?_))) ⟨rfl, rfl⟩
  | some o =>
    rw [ho] at hL
    simp only at hL
    have hn := hn o ho
    refine ACall.enter Try.func50 rfl (by kernel_rfl) rfl (Nat.le_of_ble_eq_true rfl) ?_
    refine c_start ?_
    refine c_seq ?_
    refine c_region ?_
    refine AOps.st 6 rfl rfl rfl (op_assign rfl rfl ?_)
    refine AOps.st 7 rfl rfl rfl (op_assign rfl rfl ?_)
    refine AOps.nil ?_
    refine go_code ?_
    refine c_seq ?_
    refine c_region ?_
    refine AOps.st 16 rfl rfl rfl (op_move rfl rfl ?_)
    refine AOps.st 17 rfl rfl rfl (op_move rfl rfl ?_)
    refine AOps.st 18 rfl rfl rfl (op_callk (xs := [.tmp 16, .tmp 17]) [0,0,0] rfl rfl rfl (hL) (by first | exact Les.refl _ | (repeat' (first | exact Les.refl _ | refine Les.cons ?_ ?_ | exact Le.refl _ | exact Le.own _ _ _ | exact Le.nil _ | refine Le.agg ?_))) ?_)
    refine AOps.st 15 rfl rfl rfl (op_move rfl rfl ?_)
    refine AOps.st 19 rfl rfl rfl (op_extract rfl rfl rfl ?_)
    refine AOps.st 20 rfl rfl rfl (op_extract rfl rfl rfl ?_)
    refine AOps.st 21 rfl rfl rfl (op_extract rfl rfl rfl ?_)
    refine AOps.st 22 rfl rfl rfl (op_extract rfl rfl rfl ?_)
    refine AOps.st 8 rfl rfl rfl (op_assign rfl rfl ?_)
    refine AOps.st 9 rfl rfl rfl (op_assign rfl rfl ?_)
    refine AOps.st 10 rfl rfl rfl (op_assign rfl rfl ?_)
    refine AOps.st 11 rfl rfl rfl (op_assign rfl rfl ?_)
    refine AOps.nil ?_
    refine go_code ?_
    refine c_seq ?_
    refine c_seq ?_
    refine c_bool 33 (True) ?_ _ _ rfl ?_
    · skip
      refine AOps.st 23 rfl rfl rfl (op_move rfl rfl ?_)
      refine AOps.st 24 rfl rfl rfl (op_notc rfl rfl ?_); intro c24 h24
      try replace h24 := nott h24 h22
      refine AOps.st 25 rfl rfl rfl (op_move rfl rfl ?_)
      rcases bool_split h24 with ⟨rfl, g24⟩ | ⟨rfl, g24⟩
      · skip
        refine AOps.gt 26 rfl rfl rfl rfl rfl (op_move rfl rfl ?_)
        refine AOps.gt 27 rfl rfl rfl rfl rfl (op_lss rfl rfl rfl ?_); intro c27 h27
        refine AOps.st 28 rfl rfl rfl (op_pick rfl rfl rfl ?_)
        refine AOps.st 29 rfl rfl rfl (op_move rfl rfl ?_)
        rcases bool_split h27 with ⟨rfl, g27⟩ | ⟨rfl, g27⟩
        · skip
          refine AOps.gt 30 rfl rfl rfl rfl rfl (op_move rfl rfl ?_)
          refine AOps.gt 31 rfl rfl rfl rfl rfl (op_move rfl rfl ?_)
          refine AOps.gt 32 rfl rfl rfl rfl rfl (op_geq rfl rfl rfl ?_); intro c32 h32
          refine AOps.st 33 rfl rfl rfl (op_pick rfl rfl rfl ?_)
          refine AOps.nil ?_
          refine BoolQ.mk rfl ?_ (by repeat' (first | exact SLe.wo _ _ | exact SLe.refl _ | refine SLe.fresh rfl ?_)) (by first | exact MLe.none _ | exact MLe.refl _ | (repeat' (first | exact MLe.nil | exact MLe.refl _ | refine MLe.cons _ ?_ | refine MLe.drop _ ?_)))
          first | (simp_all; done) | (simp_all; omega)
        · skip
          refine AOps.gf 30 rfl rfl rfl rfl rfl ?_
          refine AOps.gf 31 rfl rfl rfl rfl rfl ?_
          refine AOps.gf 32 rfl rfl rfl rfl rfl ?_
          refine AOps.st 33 rfl rfl rfl (op_pick rfl rfl rfl ?_)
          refine AOps.nil ?_
          refine BoolQ.mk rfl ?_ (by repeat' (first | exact SLe.wo _ _ | exact SLe.refl _ | refine SLe.fresh rfl ?_)) (by first | exact MLe.none _ | exact MLe.refl _ | (repeat' (first | exact MLe.nil | exact MLe.refl _ | refine MLe.cons _ ?_ | refine MLe.drop _ ?_)))
          first | (simp_all; done) | (simp_all; omega)
      · skip
        refine AOps.gf 26 rfl rfl rfl rfl rfl ?_
        refine AOps.gf 27 rfl rfl rfl rfl rfl ?_
        refine AOps.st 28 rfl rfl rfl (op_pick rfl rfl rfl ?_)
        refine AOps.st 29 rfl rfl rfl (op_move rfl rfl ?_)
        refine AOps.gf 30 rfl rfl rfl rfl rfl ?_
        refine AOps.gf 31 rfl rfl rfl rfl rfl ?_
        refine AOps.gf 32 rfl rfl rfl rfl rfl ?_
        refine AOps.st 33 rfl rfl rfl (op_pick rfl rfl rfl ?_)
        refine AOps.nil ?_
        refine BoolQ.mk rfl ?_ (by repeat' (first | exact SLe.wo _ _ | exact SLe.refl _ | refine SLe.fresh rfl ?_)) (by first | exact MLe.none _ | exact MLe.refl _ | (repeat' (first | exact MLe.nil | exact MLe.refl _ | refine MLe.cons _ ?_ | refine MLe.drop _ ?_)))
        first | (simp_all; done) | (simp_all; omega)
    intro c33 h33
    refine go_code ?_
    rcases bool_split h33 with ⟨rfl, g33⟩ | ⟨rfl, g33⟩
    · refine c_cond_f rfl ?_
      refine c_skip ?_
      refine go_code ?_
      refine c_seq ?_
      exact absurd trivial g33
    · refine c_cond_t rfl ?_
      refine c_seq ?_
      refine c_region ?_
      refine AOps.st 6 rfl rfl rfl (op_assign rfl rfl ?_)
      refine AOps.st 7 rfl rfl rfl (op_assign rfl rfl ?_)
      refine AOps.nil ?_
      refine go_code ?_
      refine c_ret ?_
      exact out_tt rfl rfl rfl (Le.refl _) (by first | exact MLe.none _ | exact MLe.refl _ | (repeat' (first | exact MLe.nil | exact MLe.refl _ | refine MLe.cons _ ?_ | refine MLe.drop _ ?_))) ⟨rfl, rfl⟩
def partV (H : List HO) (w i : Int) : Option Int := match objOf H w with
  | some o => if 0 ≤ i then o.parts[i.toNat]? else none
  | none => none
def partR (H : List HO) (w i : Int) : AV := match partV H w i with
  | some x => .tup [.val (.int .u64 x), .val (.bool true)]
  | none => .tup [.val (.int .u64 0), .val (.bool false)]
set_option maxHeartbeats 4000000 in
set_option maxRecDepth 100000 in
theorem Part_c (b : Nat) (sz : Int) (H : List HO) (M : Mem) (hM : HeapAt b sz H M) (h : 0 < sz) (hH : ∀ o ∈ H, o.ok) (hu : used H ≤ 16777216) (w : Int) (h0 : 0 ≤ w) (h1 : w ≤ 18446744073709551615) (i : Int) : KCall Try.prog 23 [.ptr b 0, .val (.int .u64 w), .val (.int .i64 i)] M (partR H w i) := by
  have hM0 := hM
  obtain ⟨now, gw, cw, gb, cb, x, y, rfl⟩ := hM
  unfold partR
  cases hp : partV H w i with
  | none =>
    have hN := place_none b sz H h hH hu w h0 h1 i (fun o ho q => by
      unfold partV at hp
      rw [ho] at hp
      simp only [q.1, if_true] at hp
      rw [List.getElem?_eq_none_iff] at hp
      omega) _ hM0
    refine ACall.enter Try.func23 rfl (by kernel_rfl) rfl (Nat.le_of_ble_eq_true rfl) ?_
    refine c_start ?_
    refine c_seq ?_
    refine c_region ?_
    refine AOps.st 6 rfl rfl rfl (op_assign rfl rfl ?_)
    refine AOps.st 7 rfl rfl rfl (op_assign rfl rfl ?_)
    refine AOps.nil ?_
    refine go_code ?_
    refine c_seq ?_
    refine c_region ?_
    refine AOps.st 11 rfl rfl rfl (op_move rfl rfl ?_)
    refine AOps.st 12 rfl rfl rfl (op_move rfl rfl ?_)
    refine AOps.st 13 rfl rfl rfl (op_move rfl rfl ?_)
    refine AOps.st 14 rfl rfl rfl (op_callk (xs := [.tmp 11, .tmp 12, .tmp 13]) [0,0,0] rfl rfl rfl (hN) (by first | exact Les.refl _ | (repeat' (first | exact Les.refl _ | refine Les.cons ?_ ?_ | exact Le.refl _ | exact Le.own _ _ _ | exact Le.nil _ | refine Le.agg ?_))) ?_)
    refine AOps.st 10 rfl rfl rfl (op_move rfl rfl ?_)
    refine AOps.st 15 rfl rfl rfl (op_extract rfl rfl rfl ?_)
    refine AOps.st 16 rfl rfl rfl (op_extract rfl rfl rfl ?_)
    refine AOps.st 8 rfl rfl rfl (op_assign rfl rfl ?_)
    refine AOps.st 9 rfl rfl rfl (op_assign rfl rfl ?_)
    refine AOps.nil ?_
    refine go_code ?_
    refine c_seq ?_
    refine c_seq ?_
    refine c_region ?_
    refine AOps.st 17 rfl rfl rfl (op_move rfl rfl ?_)
    refine AOps.st 18 rfl rfl rfl (op_notc rfl rfl ?_); intro c18 h18
    try replace h18 := nott h18 h16
    refine AOps.nil ?_
    refine go_code ?_
    rcases bool_split h18 with ⟨rfl, g18⟩ | ⟨rfl, g18⟩
    · refine c_cond_f rfl ?_
      refine c_skip ?_
      refine go_code ?_
      refine c_seq ?_
      exact absurd g18 (by simp)
    · refine c_cond_t rfl ?_
      refine c_seq ?_
      refine c_region ?_
      refine AOps.st 6 rfl rfl rfl (op_assign rfl rfl ?_)
      refine AOps.st 7 rfl rfl rfl (op_assign rfl rfl ?_)
      refine AOps.nil ?_
      refine go_code ?_
      refine c_ret ?_
      exact out_tt rfl rfl rfl (Le.refl _) (by first | exact MLe.none _ | exact MLe.refl _ | (repeat' (first | exact MLe.nil | exact MLe.refl _ | refine MLe.cons _ ?_ | refine MLe.drop _ ?_))) ⟨rfl, rfl⟩
  | some z =>
    unfold partV at hp
    cases ho : objOf H w with
    | none => rw [ho] at hp; cases hp
    | some o =>
      rw [ho] at hp
      simp only at hp
      split at hp
      · rename_i hi
        obtain ⟨k, rfl⟩ := Int.eq_ofNat_of_zero_le hi
        rw [Int.toNat_natCast] at hp
        have hk := get_lt hp
        obtain ⟨a, ha, _, _, ha2, _, hwi⟩ := at_some hu ho
        have hN := place_some now b gw cw gb cb x y sz H h hH hu w h0 h1 o ho a ha k hk _ rfl
        have hx : ((hw H).map iv)[a + 1 + k]? = some [.val (.int .u64 z)] := by rw [List.getElem?_map, hwi k hk, hp]; rfl
        generalize (hw H).map iv = EW at *
        refine ACall.enter Try.func23 rfl (by kernel_rfl) rfl (Nat.le_of_ble_eq_true rfl) ?_
        refine c_start ?_
        refine c_seq ?_
        refine c_region ?_
        refine AOps.st 6 rfl rfl rfl (op_assign rfl rfl ?_)
        refine AOps.st 7 rfl rfl rfl (op_assign rfl rfl ?_)
        refine AOps.nil ?_
        refine go_code ?_
        refine c_seq ?_
        refine c_region ?_
        refine AOps.st 11 rfl rfl rfl (op_move rfl rfl ?_)
        refine AOps.st 12 rfl rfl rfl (op_move rfl rfl ?_)
        refine AOps.st 13 rfl rfl rfl (op_move rfl rfl ?_)
        refine AOps.st 14 rfl rfl rfl (op_callk (xs := [.tmp 11, .tmp 12, .tmp 13]) [0,0,0] rfl rfl rfl (hN) (by first | exact Les.refl _ | (repeat' (first | exact Les.refl _ | refine Les.cons ?_ ?_ | exact Le.refl _ | exact Le.own _ _ _ | exact Le.nil _ | refine Le.agg ?_))) ?_)
        refine AOps.st 10 rfl rfl rfl (op_move rfl rfl ?_)
        refine AOps.st 15 rfl rfl rfl (op_extract rfl rfl rfl ?_)
        refine AOps.st 16 rfl rfl rfl (op_extract rfl rfl rfl ?_)
        refine AOps.st 8 rfl rfl rfl (op_assign rfl rfl ?_)
        refine AOps.st 9 rfl rfl rfl (op_assign rfl rfl ?_)
        refine AOps.nil ?_
        refine go_code ?_
        refine c_seq ?_
        refine c_seq ?_
        refine c_region ?_
        refine AOps.st 17 rfl rfl rfl (op_move rfl rfl ?_)
        refine AOps.st 18 rfl rfl rfl (op_notc rfl rfl ?_); intro c18 h18
        try replace h18 := nott h18 h16
        refine AOps.nil ?_
        refine go_code ?_
        rcases bool_split h18 with ⟨rfl, g18⟩ | ⟨rfl, g18⟩
        · refine c_cond_f rfl ?_
          refine c_skip ?_
          refine go_code ?_
          refine c_seq ?_
          refine c_region ?_
          refine AOps.st 19 rfl rfl rfl (op_move rfl rfl ?_)
          first | (refine AOps.st 20 rfl rfl rfl (op_nilCheck_m rfl rfl ?_)) | (refine AOps.st 20 rfl rfl rfl (op_nilCheck_c rfl rfl ?_)) | (refine AOps.st 20 rfl rfl rfl (op_nilCheck_f rfl rfl ?_))
          refine AOps.st 21 rfl rfl rfl (op_load_row1 (i := 1) (k := a + 1 + k) (f := 0) rfl ta_42 rfl rfl rfl (hx) rfl ?_)
          refine AOps.st 6 rfl rfl rfl (op_assign rfl rfl ?_)
          refine AOps.st 7 rfl rfl rfl (op_assign rfl rfl ?_)
          refine AOps.nil ?_
          refine go_code ?_
          refine c_ret ?_
          exact out_tt rfl rfl rfl (Le.refl _) (by first | exact MLe.none _ | exact MLe.refl _ | (repeat' (first | exact MLe.nil | exact MLe.refl _ | refine MLe.cons _ ?_ | refine MLe.drop _ ?_))) ⟨rfl, rfl⟩
        · refine c_cond_t rfl ?_
          refine c_seq ?_
          exact absurd g18 (by simp)
      · cases hp
end Go.Proofs.Ytecpnlhjjmcllaa
