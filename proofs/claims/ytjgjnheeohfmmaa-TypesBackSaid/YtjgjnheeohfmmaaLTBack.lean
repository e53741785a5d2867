/- TypesBack: what was put in is found again by matching; a name that does not occur changes nothing. No condition. -/
import Derived.Test.YtjgjnheeohfmmaaLTPut
import Derived.Test.YtjgjnheeohfmmaaPN
import Derived.Test.YtjgjnheeohfmmaaB08w
namespace Go.Proofs.Ytjgjnheeohfmmaa
open Go.ChangeShapes Go.WideShapes Go.ChangeAt Go.RowKit
theorem back_facts (names : List ByteArray) (ts : List Ty) (t : Ty) (name : ByteArray) (h1 : t.small 100 = true) (h2 : (∀ x ∈ ts, Ty.small x 50 = true) ∧ ts.length ≤ 30) : ∃ (u : Ty) (vs : List ByteArray) (us : List Ty), PCall Try.prog 21 [.seq 1 (strs names), .seq 4 (Ty.cellss ts), .agg t.cells] (.agg u.cells) ∧ PCall Try.prog 14 [.agg t.cells, .agg u.cells] (.tup [.seq 1 (strs vs), .seq 4 (Ty.cellss us), .val (.bool true)]) ∧ PCall Try.prog 21 [.seq 1 (strs vs), .seq 4 (Ty.cellss us), .agg t.cells] (.agg u.cells) ∧ PCall Try.prog 23 [.agg t.cells] (.seq 1 (strs vs)) ∧ (name ∉ vs → PCall Try.prog 21 [.seq 1 (strs [name]), .seq 4 (Ty.cellss [u]), .agg t.cells] (.agg t.cells)) := by
  obtain ⟨hs, hv⟩ := Ty.small_size (by omega) h1
  have hts : ∀ x ∈ ts, x.size ≤ 50 := fun x hx => by have := (Ty.small_size (by omega) (h2.1 x hx)).1; omega
  have hu := Ty.size_turn (putO names ts) 50 (by omega) (fun x y h => hts y (putO_mem h)) t
  have ho : ∀ x : Ty, x.kind ≠ 1 → putO names ts x = none := fun x hk => by cases x; exact putO_not hk
  have hm := mt_turn (putO names ts) ho t [] hv
  simp only [List.map_nil] at hm
  have hus : ∀ x ∈ t.vars.map (fun s => (tv s).turn (putO names ts)), x.size ≤ 1000000 := fun x hx => by
    obtain ⟨s, _, rfl⟩ := List.mem_map.1 hx
    have := Ty.size_turn (putO names ts) 50 (by omega) (fun x y h => hts y (putO_mem h)) (tv s)
    rw [show (tv s).size = 1 from rfl] at this
    omega
  refine ⟨t.turn (putO names ts), t.vars, t.vars.map (fun s => (tv s).turn (putO names ts)), Put_c names ts t (fun x hx => by have := hts x hx; omega) (by omega), ?_, ?_, (Vars_c t (by omega)).pure, fun hn => ?_⟩
  · refine (Match_c t (t.turn (putO names ts)) hv (by omega) (by omega)).mono ?_
    rintro v M' ⟨rfl, h⟩
    rcases h with ⟨st, e, rfl⟩ | ⟨e, _⟩
    · rw [hm] at e
      cases e
      exact ⟨rfl, rfl⟩
    · rw [hm] at e; cases e
  · have := Put_c t.vars (t.vars.map (fun s => (tv s).turn (putO names ts))) t hus (by omega)
    rw [turn_back _ ho t hv] at this
    exact this
  · have := Put_c [name] [t.turn (putO names ts)] t (fun x hx => by simp at hx; subst hx; omega) (by omega)
    rw [turn_other name _ t hv hn] at this
    exact this
set_option maxRecDepth 100000 in
theorem TypesBack_c (names : List ByteArray) (ts : List Ty) (subs : List (Int × Ty)) (t : Ty) (name : ByteArray) : ACall Try.prog 4 [.agg t.cells, .agg [.seq 1 (strs names), .seq 4 (Ty.cellss ts), .seq 5 (subss subs)], .val (.string name)] [] (fun v _ => v = .val (.bool true)) := by
  have HF := back_facts names ts t name
  have HSm := Small_c t 100 (by omega) (by omega)
  have HSs := smalls_c ts 50 (by omega) (by omega)
  generalize t.small 100 = bt at HF HSm
  generalize ((∀ x ∈ ts, Ty.small x 50 = true) ∧ ts.length ≤ 30) = bs at HF HSs
  obtain ⟨k, s, n, ks⟩ := t
  refine ACall.enter Try.func4 rfl (by kernel_rfl) rfl (Nat.le_of_ble_eq_true rfl) ?_
  refine c_start ?_
  refine c_seq ?_
  refine c_region ?_
  refine AOps.st 3 rfl rfl rfl (op_box rfl rfl rfl ?_); intro b3
  refine AOps.st 4 rfl rfl rfl (op_box rfl rfl rfl ?_); intro b4
  refine AOps.st 6 rfl rfl rfl (op_assign rfl rfl ?_)
  refine AOps.nil ?_
  refine go_code ?_
  refine c_seq ?_
  refine c_seq ?_
  refine c_region ?_
  refine AOps.st 13 rfl rfl rfl (op_callp (xs := []) rfl rfl (awake08_c) (by first | exact Les.refl _ | (repeat' (first | exact Les.refl _ | refine Les.cons ?_ ?_ | exact Le.refl _ | exact Le.own _ _ _ | exact Le.nil _ | refine Le.agg ?_))) ?_)
  refine AOps.st 14 rfl rfl rfl (op_notc rfl rfl ?_); intro c14 h14
  try replace h14 := nott h14 h13
  refine AOps.nil ?_
  refine go_code ?_
  rcases bool_split h14 with ⟨rfl, g14⟩ | ⟨rfl, g14⟩
  · refine c_cond_f rfl ?_
    refine c_skip ?_
    refine go_code ?_
    refine c_seq ?_
    refine c_seq ?_
    refine c_bool 29 (¬ bt = true ∨ (30 : Int) < (strs names).length ∨ ¬ bs) ?_ _ _ rfl ?_
    · skip
      first | (refine AOps.st 15 rfl rfl rfl (op_load_m (i := 0) rfl ta_24 rfl rfl rfl rfl ?_)) | (refine AOps.st 15 rfl rfl rfl (op_load_m (i := 1) rfl ta_24 rfl rfl rfl rfl ?_)) | (refine AOps.st 15 rfl rfl rfl (op_load_m (i := 2) rfl ta_24 rfl rfl rfl rfl ?_)) | (refine AOps.st 15 rfl rfl rfl (op_load_m (i := 3) rfl ta_24 rfl rfl rfl rfl ?_)) | (refine AOps.st 15 rfl rfl rfl (op_load_m (i := 4) rfl ta_24 rfl rfl rfl rfl ?_)) | (refine AOps.st 15 rfl rfl rfl (op_load_m (i := 5) rfl ta_24 rfl rfl rfl rfl ?_)) | (refine AOps.st 15 rfl rfl rfl (op_load_c rfl ta_24 rfl rfl rfl ?_))
      refine AOps.st 16 rfl rfl rfl (op_callb (xs := [.tmp 15, .const (.int .i64 100)]) rfl rfl (HSm) (by first | exact Les.refl _ | (repeat' (first | exact Les.refl _ | refine Les.cons ?_ ?_ | exact Le.refl _ | exact Le.own _ _ _ | exact Le.nil _ | refine Le.agg ?_))) ?_); intro c16 h16
      refine AOps.st 17 rfl rfl rfl (op_notc rfl rfl ?_); intro c17 h17
      try replace h17 := nott h17 h16
      refine AOps.st 18 rfl rfl rfl (op_move rfl rfl ?_)
      rcases bool_split h17 with ⟨rfl, g17⟩ | ⟨rfl, g17⟩
      · skip
        first | (refine AOps.gt 19 rfl rfl rfl rfl rfl (op_fieldAddr_m rfl tf_36_0 rfl ?_)) | (refine AOps.gt 19 rfl rfl rfl rfl rfl (op_fieldAddr_c rfl tf_36_0 rfl rfl ?_))
        first | (refine AOps.gt 20 rfl rfl rfl rfl rfl (op_load_m1 (i := 0) rfl ta_27 rfl rfl rfl ?_)) | (refine AOps.gt 20 rfl rfl rfl rfl rfl (op_load_m1 (i := 1) rfl ta_27 rfl rfl rfl ?_)) | (refine AOps.gt 20 rfl rfl rfl rfl rfl (op_load_m1 (i := 2) rfl ta_27 rfl rfl rfl ?_)) | (refine AOps.gt 20 rfl rfl rfl rfl rfl (op_load_m1 (i := 3) rfl ta_27 rfl rfl rfl ?_)) | (refine AOps.gt 20 rfl rfl rfl rfl rfl (op_load_m1 (i := 4) rfl ta_27 rfl rfl rfl ?_)) | (refine AOps.gt 20 rfl rfl rfl rfl rfl (op_load_m1 (i := 5) rfl ta_27 rfl rfl rfl ?_)) | (refine AOps.gt 20 rfl rfl rfl rfl rfl (op_load_c1 rfl ta_27 rfl rfl ?_))
        first | (refine AOps.gt 21 rfl rfl rfl rfl rfl (op_len rfl tu_27 rfl (.seq _ _) (fun n21 => ?_))) | (refine AOps.gt 21 rfl rfl rfl rfl rfl (op_len rfl tu_27 rfl (.own _ _ _) (fun n21 => ?_))) | (refine AOps.gt 21 rfl rfl rfl rfl rfl (op_len rfl tu_27 rfl (.nil 0) (fun n21 => ?_))) | (refine AOps.gt 21 rfl rfl rfl rfl rfl (op_len_arr rfl tu_27 rfl ?_))
        refine AOps.gt 22 rfl rfl rfl rfl rfl (op_gtr rfl rfl rfl ?_); intro c22 h22
        refine AOps.st 23 rfl rfl rfl (op_pick rfl rfl rfl ?_)
        refine AOps.st 24 rfl rfl rfl (op_move rfl rfl ?_)
        rcases bool_split h22 with ⟨rfl, g22⟩ | ⟨rfl, g22⟩
        · skip
          first | (refine AOps.gt 25 rfl rfl rfl rfl rfl (op_fieldAddr_m rfl tf_36_1 rfl ?_)) | (refine AOps.gt 25 rfl rfl rfl rfl rfl (op_fieldAddr_c rfl tf_36_1 rfl rfl ?_))
          first | (refine AOps.gt 26 rfl rfl rfl rfl rfl (op_load_m1 (i := 0) rfl ta_22 rfl rfl rfl ?_)) | (refine AOps.gt 26 rfl rfl rfl rfl rfl (op_load_m1 (i := 1) rfl ta_22 rfl rfl rfl ?_)) | (refine AOps.gt 26 rfl rfl rfl rfl rfl (op_load_m1 (i := 2) rfl ta_22 rfl rfl rfl ?_)) | (refine AOps.gt 26 rfl rfl rfl rfl rfl (op_load_m1 (i := 3) rfl ta_22 rfl rfl rfl ?_)) | (refine AOps.gt 26 rfl rfl rfl rfl rfl (op_load_m1 (i := 4) rfl ta_22 rfl rfl rfl ?_)) | (refine AOps.gt 26 rfl rfl rfl rfl rfl (op_load_m1 (i := 5) rfl ta_22 rfl rfl rfl ?_)) | (refine AOps.gt 26 rfl rfl rfl rfl rfl (op_load_c1 rfl ta_22 rfl rfl ?_))
          refine AOps.gt 27 rfl rfl rfl rfl rfl (op_callb (xs := [.tmp 26, .const (.int .i64 50)]) rfl rfl (HSs) (by first | exact Les.refl _ | (repeat' (first | exact Les.refl _ | refine Les.cons ?_ ?_ | exact Le.refl _ | exact Le.own _ _ _ | exact Le.nil _ | refine Le.agg ?_))) ?_); intro c27 h27
          refine AOps.gt 28 rfl rfl rfl rfl rfl (op_notc rfl rfl ?_); intro c28 h28
          try replace h28 := nott h28 h27
          refine AOps.st 29 rfl rfl rfl (op_pick rfl rfl rfl ?_)
          refine AOps.nil ?_
          refine BoolQ.mk rfl ?_ (by repeat' (first | exact SLe.wo _ _ | exact SLe.refl _ | refine SLe.fresh rfl ?_)) (by first | exact MLe.none _ | exact MLe.refl _ | (repeat' (first | exact MLe.nil | exact MLe.refl _ | refine MLe.cons _ ?_ | refine MLe.drop _ ?_)))
          clear HF HSm HSs
          first | (simp_all; done) | (simp_all; omega)
        · skip
          refine AOps.gf 25 rfl rfl rfl rfl rfl ?_
          refine AOps.gf 26 rfl rfl rfl rfl rfl ?_
          refine AOps.gf 27 rfl rfl rfl rfl rfl ?_
          refine AOps.gf 28 rfl rfl rfl rfl rfl ?_
          refine AOps.st 29 rfl rfl rfl (op_pick rfl rfl rfl ?_)
          refine AOps.nil ?_
          refine BoolQ.mk rfl ?_ (by repeat' (first | exact SLe.wo _ _ | exact SLe.refl _ | refine SLe.fresh rfl ?_)) (by first | exact MLe.none _ | exact MLe.refl _ | (repeat' (first | exact MLe.nil | exact MLe.refl _ | refine MLe.cons _ ?_ | refine MLe.drop _ ?_)))
          clear HF HSm HSs
          first | (simp_all; done) | (simp_all; omega)
      · skip
        refine AOps.gf 19 rfl rfl rfl rfl rfl ?_
        refine AOps.gf 20 rfl rfl rfl rfl rfl ?_
        refine AOps.gf 21 rfl rfl rfl rfl rfl ?_
        refine AOps.gf 22 rfl rfl rfl rfl rfl ?_
        refine AOps.st 23 rfl rfl rfl (op_pick rfl rfl rfl ?_)
        refine AOps.st 24 rfl rfl rfl (op_move rfl rfl ?_)
        refine AOps.gf 25 rfl rfl rfl rfl rfl ?_
        refine AOps.gf 26 rfl rfl rfl rfl rfl ?_
        refine AOps.gf 27 rfl rfl rfl rfl rfl ?_
        refine AOps.gf 28 rfl rfl rfl rfl rfl ?_
        refine AOps.st 29 rfl rfl rfl (op_pick rfl rfl rfl ?_)
        refine AOps.nil ?_
        refine BoolQ.mk rfl ?_ (by repeat' (first | exact SLe.wo _ _ | exact SLe.refl _ | refine SLe.fresh rfl ?_)) (by first | exact MLe.none _ | exact MLe.refl _ | (repeat' (first | exact MLe.nil | exact MLe.refl _ | refine MLe.cons _ ?_ | refine MLe.drop _ ?_)))
        clear HF HSm HSs
        first | (simp_all; done) | (simp_all; omega)
    intro c29 h29
    refine go_code ?_
    rcases bool_split h29 with ⟨rfl, g29⟩ | ⟨rfl, g29⟩
    · refine c_cond_f rfl ?_
      refine c_skip ?_
      refine go_code ?_
      refine c_seq ?_
      have hbt : bt = true := Classical.not_not.1 (fun q => g29 (Or.inl q))
      have hbs : bs := Classical.not_not.1 (fun q => g29 (Or.inr (Or.inr q)))
      obtain ⟨⟨uk, ux, un, uks⟩, vs, us, HP, HM, HQ, HV, HO⟩ := HF hbt hbs
      clear HF HSm HSs
      have hlv := strs_len vs
      refine c_region ?_
      first | (refine AOps.st 30 rfl rfl rfl (op_fieldAddr_m rfl tf_36_0 rfl ?_)) | (refine AOps.st 30 rfl rfl rfl (op_fieldAddr_c rfl tf_36_0 rfl rfl ?_))
      first | (refine AOps.st 31 rfl rfl rfl (op_load_m1 (i := 0) rfl ta_27 rfl rfl rfl ?_)) | (refine AOps.st 31 rfl rfl rfl (op_load_m1 (i := 1) rfl ta_27 rfl rfl rfl ?_)) | (refine AOps.st 31 rfl rfl rfl (op_load_m1 (i := 2) rfl ta_27 rfl rfl rfl ?_)) | (refine AOps.st 31 rfl rfl rfl (op_load_m1 (i := 3) rfl ta_27 rfl rfl rfl ?_)) | (refine AOps.st 31 rfl rfl rfl (op_load_m1 (i := 4) rfl ta_27 rfl rfl rfl ?_)) | (refine AOps.st 31 rfl rfl rfl (op_load_m1 (i := 5) rfl ta_27 rfl rfl rfl ?_)) | (refine AOps.st 31 rfl rfl rfl (op_load_c1 rfl ta_27 rfl rfl ?_))
      first | (refine AOps.st 32 rfl rfl rfl (op_fieldAddr_m rfl tf_36_1 rfl ?_)) | (refine AOps.st 32 rfl rfl rfl (op_fieldAddr_c rfl tf_36_1 rfl rfl ?_))
      first | (refine AOps.st 33 rfl rfl rfl (op_load_m1 (i := 0) rfl ta_22 rfl rfl rfl ?_)) | (refine AOps.st 33 rfl rfl rfl (op_load_m1 (i := 1) rfl ta_22 rfl rfl rfl ?_)) | (refine AOps.st 33 rfl rfl rfl (op_load_m1 (i := 2) rfl ta_22 rfl rfl rfl ?_)) | (refine AOps.st 33 rfl rfl rfl (op_load_m1 (i := 3) rfl ta_22 rfl rfl rfl ?_)) | (refine AOps.st 33 rfl rfl rfl (op_load_m1 (i := 4) rfl ta_22 rfl rfl rfl ?_)) | (refine AOps.st 33 rfl rfl rfl (op_load_m1 (i := 5) rfl ta_22 rfl rfl rfl ?_)) | (refine AOps.st 33 rfl rfl rfl (op_load_c1 rfl ta_22 rfl rfl ?_))
      first | (refine AOps.st 34 rfl rfl rfl (op_load_m (i := 0) rfl ta_24 rfl rfl rfl rfl ?_)) | (refine AOps.st 34 rfl rfl rfl (op_load_m (i := 1) rfl ta_24 rfl rfl rfl rfl ?_)) | (refine AOps.st 34 rfl rfl rfl (op_load_m (i := 2) rfl ta_24 rfl rfl rfl rfl ?_)) | (refine AOps.st 34 rfl rfl rfl (op_load_m (i := 3) rfl ta_24 rfl rfl rfl rfl ?_)) | (refine AOps.st 34 rfl rfl rfl (op_load_m (i := 4) rfl ta_24 rfl rfl rfl rfl ?_)) | (refine AOps.st 34 rfl rfl rfl (op_load_m (i := 5) rfl ta_24 rfl rfl rfl rfl ?_)) | (refine AOps.st 34 rfl rfl rfl (op_load_c rfl ta_24 rfl rfl rfl ?_))
      refine AOps.st 35 rfl rfl rfl (op_callp (xs := [.tmp 31, .tmp 33, .tmp 34]) rfl rfl (HP) (by first | exact Les.refl _ | (repeat' (first | exact Les.refl _ | refine Les.cons ?_ ?_ | exact Le.refl _ | exact Le.own _ _ _ | exact Le.nil _ | refine Le.agg ?_))) ?_)
      refine AOps.st 7 rfl rfl rfl (op_alloc rfl tz_24 rfl ?_); intro b7
      first | (refine AOps.st0 rfl rfl (op_store (i := 0) rfl ts_24 rfl rfl rfl rfl rfl (Nat.le_of_ble_eq_true rfl) rfl ?_)) | (refine AOps.st0 rfl rfl (op_store (i := 1) rfl ts_24 rfl rfl rfl rfl rfl (Nat.le_of_ble_eq_true rfl) rfl ?_)) | (refine AOps.st0 rfl rfl (op_store (i := 2) rfl ts_24 rfl rfl rfl rfl rfl (Nat.le_of_ble_eq_true rfl) rfl ?_)) | (refine AOps.st0 rfl rfl (op_store (i := 3) rfl ts_24 rfl rfl rfl rfl rfl (Nat.le_of_ble_eq_true rfl) rfl ?_)) | (refine AOps.st0 rfl rfl (op_store (i := 4) rfl ts_24 rfl rfl rfl rfl rfl (Nat.le_of_ble_eq_true rfl) rfl ?_)) | (refine AOps.st0 rfl rfl (op_store (i := 5) rfl ts_24 rfl rfl rfl rfl rfl (Nat.le_of_ble_eq_true rfl) rfl ?_))
      refine AOps.nil ?_
      refine go_code ?_
      refine c_seq ?_
      refine c_region ?_
      first | (refine AOps.st 37 rfl rfl rfl (op_load_m (i := 0) rfl ta_24 rfl rfl rfl rfl ?_)) | (refine AOps.st 37 rfl rfl rfl (op_load_m (i := 1) rfl ta_24 rfl rfl rfl rfl ?_)) | (refine AOps.st 37 rfl rfl rfl (op_load_m (i := 2) rfl ta_24 rfl rfl rfl rfl ?_)) | (refine AOps.st 37 rfl rfl rfl (op_load_m (i := 3) rfl ta_24 rfl rfl rfl rfl ?_)) | (refine AOps.st 37 rfl rfl rfl (op_load_m (i := 4) rfl ta_24 rfl rfl rfl rfl ?_)) | (refine AOps.st 37 rfl rfl rfl (op_load_m (i := 5) rfl ta_24 rfl rfl rfl rfl ?_)) | (refine AOps.st 37 rfl rfl rfl (op_load_c rfl ta_24 rfl rfl rfl ?_))
      first | (refine AOps.st 38 rfl rfl rfl (op_load_m (i := 0) rfl ta_24 rfl rfl rfl rfl ?_)) | (refine AOps.st 38 rfl rfl rfl (op_load_m (i := 1) rfl ta_24 rfl rfl rfl rfl ?_)) | (refine AOps.st 38 rfl rfl rfl (op_load_m (i := 2) rfl ta_24 rfl rfl rfl rfl ?_)) | (refine AOps.st 38 rfl rfl rfl (op_load_m (i := 3) rfl ta_24 rfl rfl rfl rfl ?_)) | (refine AOps.st 38 rfl rfl rfl (op_load_m (i := 4) rfl ta_24 rfl rfl rfl rfl ?_)) | (refine AOps.st 38 rfl rfl rfl (op_load_m (i := 5) rfl ta_24 rfl rfl rfl rfl ?_)) | (refine AOps.st 38 rfl rfl rfl (op_load_c rfl ta_24 rfl rfl rfl ?_))
      refine AOps.st 39 rfl rfl rfl (op_callp (xs := [.tmp 37, .tmp 38]) rfl rfl (HM) (by first | exact Les.refl _ | (repeat' (first | exact Les.refl _ | refine Les.cons ?_ ?_ | exact Le.refl _ | exact Le.own _ _ _ | exact Le.nil _ | refine Le.agg ?_))) ?_)
      refine AOps.st 36 rfl rfl rfl (op_move rfl rfl ?_)
      refine AOps.st 40 rfl rfl rfl (op_extract rfl rfl rfl ?_)
      refine AOps.st 41 rfl rfl rfl (op_extract rfl rfl rfl ?_)
      refine AOps.st 42 rfl rfl rfl (op_extract rfl rfl rfl ?_)
      refine AOps.st 8 rfl rfl rfl (op_assign rfl rfl ?_)
      refine AOps.st 9 rfl rfl rfl (op_assign rfl rfl ?_)
      refine AOps.st 10 rfl rfl rfl (op_assign rfl rfl ?_)
      refine AOps.nil ?_
      refine go_code ?_
      refine c_seq ?_
      refine c_seq ?_
      refine c_boold 60 (False) tmix rfl ?_ _ _ rfl ?_
      · skip
        refine DOps.st 43 rfl rfl (op_move rfl rfl ⟨rfl, rfl⟩) ?_
        refine DOps.cm 44 rfl rfl (fun _ q => op_notc rfl rfl q) ?_; intro c44 h44
        try replace h44 := nott h44 h42
        refine DOps.st 45 rfl rfl (op_move rfl rfl ⟨rfl, rfl⟩) ?_
        rcases bool_split h44 with ⟨rfl, g44⟩ | ⟨rfl, g44⟩
        · skip
          refine DOps.gt 46 rfl rfl rfl rfl (op_move rfl rfl ⟨rfl, rfl⟩) ?_
          refine DOps.gt 47 rfl rfl rfl rfl (op_move rfl rfl ⟨rfl, rfl⟩) ?_
          first | (refine DOps.gt 48 rfl rfl rfl rfl (op_load_m (i := 0) rfl ta_24 rfl rfl rfl rfl ⟨rfl, rfl⟩) ?_) | (refine DOps.gt 48 rfl rfl rfl rfl (op_load_m (i := 1) rfl ta_24 rfl rfl rfl rfl ⟨rfl, rfl⟩) ?_) | (refine DOps.gt 48 rfl rfl rfl rfl (op_load_m (i := 2) rfl ta_24 rfl rfl rfl rfl ⟨rfl, rfl⟩) ?_) | (refine DOps.gt 48 rfl rfl rfl rfl (op_load_m (i := 3) rfl ta_24 rfl rfl rfl rfl ⟨rfl, rfl⟩) ?_) | (refine DOps.gt 48 rfl rfl rfl rfl (op_load_m (i := 4) rfl ta_24 rfl rfl rfl rfl ⟨rfl, rfl⟩) ?_) | (refine DOps.gt 48 rfl rfl rfl rfl (op_load_m (i := 5) rfl ta_24 rfl rfl rfl rfl ⟨rfl, rfl⟩) ?_) | (refine DOps.gt 48 rfl rfl rfl rfl (op_load_c rfl ta_24 rfl rfl rfl ⟨rfl, rfl⟩) ?_)
          refine DOps.gt 49 rfl rfl rfl rfl (op_callp (xs := [.tmp 46, .tmp 47, .tmp 48]) rfl rfl (HQ) (by first | exact Les.refl _ | (repeat' (first | exact Les.refl _ | refine Les.cons ?_ ?_ | exact Le.refl _ | exact Le.own _ _ _ | exact Le.nil _ | refine Le.agg ?_))) ⟨rfl, rfl⟩) ?_
          first | (refine DOps.gt 50 rfl rfl rfl rfl (op_load_m (i := 0) rfl ta_24 rfl rfl rfl rfl ⟨rfl, rfl⟩) ?_) | (refine DOps.gt 50 rfl rfl rfl rfl (op_load_m (i := 1) rfl ta_24 rfl rfl rfl rfl ⟨rfl, rfl⟩) ?_) | (refine DOps.gt 50 rfl rfl rfl rfl (op_load_m (i := 2) rfl ta_24 rfl rfl rfl rfl ⟨rfl, rfl⟩) ?_) | (refine DOps.gt 50 rfl rfl rfl rfl (op_load_m (i := 3) rfl ta_24 rfl rfl rfl rfl ⟨rfl, rfl⟩) ?_) | (refine DOps.gt 50 rfl rfl rfl rfl (op_load_m (i := 4) rfl ta_24 rfl rfl rfl rfl ⟨rfl, rfl⟩) ?_) | (refine DOps.gt 50 rfl rfl rfl rfl (op_load_m (i := 5) rfl ta_24 rfl rfl rfl rfl ⟨rfl, rfl⟩) ?_) | (refine DOps.gt 50 rfl rfl rfl rfl (op_load_c rfl ta_24 rfl rfl rfl ⟨rfl, rfl⟩) ?_)
          refine DOps.gt 51 rfl rfl rfl rfl (op_callp (xs := [.tmp 49, .tmp 50]) rfl rfl ((SameType_c (.mk uk ux un uks) (.mk uk ux un uks)).yes rfl) (by first | exact Les.refl _ | (repeat' (first | exact Les.refl _ | refine Les.cons ?_ ?_ | exact Le.refl _ | exact Le.own _ _ _ | exact Le.nil _ | refine Le.agg ?_))) ⟨rfl, rfl⟩) ?_
          refine DOps.gtc 52 rfl rfl rfl rfl (fun _ q => op_notc rfl rfl q) ?_; intro c52 h52
          try replace h52 := nott h52 h51
          refine DOps.st 53 rfl rfl (op_pick rfl rfl rfl ⟨rfl, rfl⟩) ?_
          refine DOps.st 54 rfl rfl (op_move rfl rfl ⟨rfl, rfl⟩) ?_
          rcases bool_split h52 with ⟨rfl, g52⟩ | ⟨rfl, g52⟩
          · skip
            refine DOps.gt 55 rfl rfl rfl rfl (op_move rfl rfl ⟨rfl, rfl⟩) ?_
            first | (refine DOps.gt 56 rfl rfl rfl rfl (op_load_m (i := 0) rfl ta_24 rfl rfl rfl rfl ⟨rfl, rfl⟩) ?_) | (refine DOps.gt 56 rfl rfl rfl rfl (op_load_m (i := 1) rfl ta_24 rfl rfl rfl rfl ⟨rfl, rfl⟩) ?_) | (refine DOps.gt 56 rfl rfl rfl rfl (op_load_m (i := 2) rfl ta_24 rfl rfl rfl rfl ⟨rfl, rfl⟩) ?_) | (refine DOps.gt 56 rfl rfl rfl rfl (op_load_m (i := 3) rfl ta_24 rfl rfl rfl rfl ⟨rfl, rfl⟩) ?_) | (refine DOps.gt 56 rfl rfl rfl rfl (op_load_m (i := 4) rfl ta_24 rfl rfl rfl rfl ⟨rfl, rfl⟩) ?_) | (refine DOps.gt 56 rfl rfl rfl rfl (op_load_m (i := 5) rfl ta_24 rfl rfl rfl rfl ⟨rfl, rfl⟩) ?_) | (refine DOps.gt 56 rfl rfl rfl rfl (op_load_c rfl ta_24 rfl rfl rfl ⟨rfl, rfl⟩) ?_)
            refine DOps.gt 57 rfl rfl rfl rfl (op_callp (xs := [.tmp 56]) rfl rfl (HV) (by first | exact Les.refl _ | (repeat' (first | exact Les.refl _ | refine Les.cons ?_ ?_ | exact Le.refl _ | exact Le.own _ _ _ | exact Le.nil _ | refine Le.agg ?_))) ⟨rfl, rfl⟩) ?_
            refine DOps.gt 58 rfl rfl rfl rfl (op_callp (xs := [.tmp 55, .tmp 57]) rfl rfl ((Texts_c vs vs).yes rfl) (by first | exact Les.refl _ | (repeat' (first | exact Les.refl _ | refine Les.cons ?_ ?_ | exact Le.refl _ | exact Le.own _ _ _ | exact Le.nil _ | refine Le.agg ?_))) ⟨rfl, rfl⟩) ?_
            refine DOps.gtc 59 rfl rfl rfl rfl (fun _ q => op_notc rfl rfl q) ?_; intro c59 h59
            try replace h59 := nott h59 h58
            refine DOps.st 60 rfl rfl (op_pick rfl rfl rfl ⟨rfl, rfl⟩) ?_
            show BoolQ _ _ _ _ _ _
            refine BoolQ.mk rfl ?_ (by repeat' (first | exact SLe.wo _ _ | exact SLe.refl _ | refine SLe.fresh rfl ?_)) (by first | exact MLe.none _ | exact MLe.refl _ | (repeat' (first | exact MLe.nil | exact MLe.refl _ | refine MLe.cons _ ?_ | refine MLe.drop _ ?_)))
            first | exact iff_f id | exact h59.trans ⟨fun q => q rfl, False.elim⟩ | exact h59.trans (by simp) | (exfalso; simp_all; done)
          · skip
            refine DOps.gf 55 rfl rfl rfl rfl ?_
            refine DOps.gf 56 rfl rfl rfl rfl ?_
            refine DOps.gf 57 rfl rfl rfl rfl ?_
            refine DOps.gf 58 rfl rfl rfl rfl ?_
            refine DOps.gf 59 rfl rfl rfl rfl ?_
            refine DOps.st 60 rfl rfl (op_pick rfl rfl rfl ⟨rfl, rfl⟩) ?_
            show BoolQ _ _ _ _ _ _
            refine BoolQ.mk rfl ?_ (by repeat' (first | exact SLe.wo _ _ | exact SLe.refl _ | refine SLe.fresh rfl ?_)) (by first | exact MLe.none _ | exact MLe.refl _ | (repeat' (first | exact MLe.nil | exact MLe.refl _ | refine MLe.cons _ ?_ | refine MLe.drop _ ?_)))
            first | exact iff_f id | exact h59.trans ⟨fun q => q rfl, False.elim⟩ | exact h59.trans (by simp) | (exfalso; simp_all; done)
        · skip
          refine DOps.gf 46 rfl rfl rfl rfl ?_
          refine DOps.gf 47 rfl rfl rfl rfl ?_
          refine DOps.gf 48 rfl rfl rfl rfl ?_
          refine DOps.gf 49 rfl rfl rfl rfl ?_
          refine DOps.gf 50 rfl rfl rfl rfl ?_
          refine DOps.gf 51 rfl rfl rfl rfl ?_
          refine DOps.gf 52 rfl rfl rfl rfl ?_
          refine DOps.st 53 rfl rfl (op_pick rfl rfl rfl ⟨rfl, rfl⟩) ?_
          refine DOps.st 54 rfl rfl (op_move rfl rfl ⟨rfl, rfl⟩) ?_
          refine DOps.gf 55 rfl rfl rfl rfl ?_
          refine DOps.gf 56 rfl rfl rfl rfl ?_
          refine DOps.gf 57 rfl rfl rfl rfl ?_
          refine DOps.gf 58 rfl rfl rfl rfl ?_
          refine DOps.gf 59 rfl rfl rfl rfl ?_
          refine DOps.st 60 rfl rfl (op_pick rfl rfl rfl ⟨rfl, rfl⟩) ?_
          show BoolQ _ _ _ _ _ _
          refine BoolQ.mk rfl ?_ (by repeat' (first | exact SLe.wo _ _ | exact SLe.refl _ | refine SLe.fresh rfl ?_)) (by first | exact MLe.none _ | exact MLe.refl _ | (repeat' (first | exact MLe.nil | exact MLe.refl _ | refine MLe.cons _ ?_ | refine MLe.drop _ ?_)))
          first | exact iff_f id | exact h59.trans ⟨fun q => q rfl, False.elim⟩ | exact h59.trans (by simp) | (exfalso; simp_all; done)
      intro c60 h60
      refine go_code ?_
      rcases bool_split h60 with ⟨rfl, g60⟩ | ⟨rfl, g60⟩
      · refine c_cond_f rfl ?_
        refine c_skip ?_
        refine go_code ?_
        refine c_seq ?_
        refine c_seq ?_
        refine c_region ?_
        first | (refine AOps.st 61 rfl rfl rfl (op_load_m (i := 0) rfl ta_24 rfl rfl rfl rfl ?_)) | (refine AOps.st 61 rfl rfl rfl (op_load_m (i := 1) rfl ta_24 rfl rfl rfl rfl ?_)) | (refine AOps.st 61 rfl rfl rfl (op_load_m (i := 2) rfl ta_24 rfl rfl rfl rfl ?_)) | (refine AOps.st 61 rfl rfl rfl (op_load_m (i := 3) rfl ta_24 rfl rfl rfl rfl ?_)) | (refine AOps.st 61 rfl rfl rfl (op_load_m (i := 4) rfl ta_24 rfl rfl rfl rfl ?_)) | (refine AOps.st 61 rfl rfl rfl (op_load_m (i := 5) rfl ta_24 rfl rfl rfl rfl ?_)) | (refine AOps.st 61 rfl rfl rfl (op_load_c rfl ta_24 rfl rfl rfl ?_))
        refine AOps.st 62 rfl rfl rfl (op_callp (xs := [.tmp 61]) rfl rfl (HV) (by first | exact Les.refl _ | (repeat' (first | exact Les.refl _ | refine Les.cons ?_ ?_ | exact Le.refl _ | exact Le.own _ _ _ | exact Le.nil _ | refine Le.agg ?_))) ?_)
        first | (refine AOps.st 63 rfl rfl rfl (op_len rfl tu_27 rfl (.seq _ _) (fun n63 => ?_))) | (refine AOps.st 63 rfl rfl rfl (op_len rfl tu_27 rfl (.own _ _ _) (fun n63 => ?_))) | (refine AOps.st 63 rfl rfl rfl (op_len rfl tu_27 rfl (.nil 0) (fun n63 => ?_))) | (refine AOps.st 63 rfl rfl rfl (op_len_arr rfl tu_27 rfl ?_))
        refine AOps.st 64 rfl rfl rfl (op_move rfl rfl ?_)
        refine AOps.nil ?_
        refine go_code ?_
        refine c_block ?_
        refine c_loop (σ := Nat) (fun zz => match zz with | i => [(2, .val (.string name)), (3, .ptr b3 0), (7, .ptr b7 0), (62, .seq 1 (strs vs)), (63, .val (.int .i64 (strs vs).length)), (64, .val (.int .i64 i))]) (fun zz => match zz with | i => [.loc b7 (Ty.cells (.mk uk ux un uks)), .loc b3 (Ty.cells (.mk k s n ks))]) (fun zz => match zz with | i => i ≤ vs.length ∧ name ∉ vs.take i) (fun zz => match zz with | i => vs.length - i) (0) ?_ ?_ ?_ ?_
        · exact ⟨by omega, by simp⟩
        · exact (by repeat' (first | exact SLe.nil _ | refine SLe.cons rfl ?_ ?_ | exact Le.refl _ | exact Le.own _ _ _ | exact Le.nil _))
        · exact (by first | exact MLe.none _ | exact MLe.refl _ | (repeat' (first | exact MLe.nil | exact MLe.refl _ | refine MLe.cons _ ?_ | refine MLe.drop _ ?_)))
        rintro i hI
        try dsimp only at hI ⊢
        obtain ⟨hi, hn⟩ := hI
        refine c_seq ?_
        refine c_region ?_
        refine AOps.st 65 rfl rfl rfl (op_lss rfl rfl rfl ?_); intro c65 h65
        refine AOps.nil ?_
        refine go_code ?_
        refine c_seq ?_
        rcases bool_split h65 with ⟨rfl, g65⟩ | ⟨rfl, g65⟩
        · refine c_cond_f rfl ?_
          refine c_exit ?_
          refine x_code ?_
          refine x_lp ?_
          refine x_here ?_
          refine go_code ?_
          refine c_seq ?_
          rw [List.take_of_length_le (by omega)] at hn
          refine c_drawn tmix rfl ?_
          refine DOps.st 72 rfl rfl (op_move rfl rfl ⟨rfl, rfl⟩) ?_
          refine DOps.st 73 rfl rfl (op_buildSlice (xs := [.tmp 72]) el_27 rfl rfl rfl rfl rfl rfl (Nat.le_of_ble_eq_true rfl) ⟨rfl, rfl⟩) ?_
          first | (refine DOps.st 74 rfl rfl (op_load_m (i := 0) rfl ta_24 rfl rfl rfl rfl ⟨rfl, rfl⟩) ?_) | (refine DOps.st 74 rfl rfl (op_load_m (i := 1) rfl ta_24 rfl rfl rfl rfl ⟨rfl, rfl⟩) ?_) | (refine DOps.st 74 rfl rfl (op_load_m (i := 2) rfl ta_24 rfl rfl rfl rfl ⟨rfl, rfl⟩) ?_) | (refine DOps.st 74 rfl rfl (op_load_m (i := 3) rfl ta_24 rfl rfl rfl rfl ⟨rfl, rfl⟩) ?_) | (refine DOps.st 74 rfl rfl (op_load_m (i := 4) rfl ta_24 rfl rfl rfl rfl ⟨rfl, rfl⟩) ?_) | (refine DOps.st 74 rfl rfl (op_load_m (i := 5) rfl ta_24 rfl rfl rfl rfl ⟨rfl, rfl⟩) ?_) | (refine DOps.st 74 rfl rfl (op_load_c rfl ta_24 rfl rfl rfl ⟨rfl, rfl⟩) ?_)
          refine DOps.st 75 rfl rfl (op_buildSlice (xs := [.tmp 74]) el_22 rfl rfl rfl rfl rfl rfl (Nat.le_of_ble_eq_true rfl) ⟨rfl, rfl⟩) ?_
          first | (refine DOps.st 76 rfl rfl (op_load_m (i := 0) rfl ta_24 rfl rfl rfl rfl ⟨rfl, rfl⟩) ?_) | (refine DOps.st 76 rfl rfl (op_load_m (i := 1) rfl ta_24 rfl rfl rfl rfl ⟨rfl, rfl⟩) ?_) | (refine DOps.st 76 rfl rfl (op_load_m (i := 2) rfl ta_24 rfl rfl rfl rfl ⟨rfl, rfl⟩) ?_) | (refine DOps.st 76 rfl rfl (op_load_m (i := 3) rfl ta_24 rfl rfl rfl rfl ⟨rfl, rfl⟩) ?_) | (refine DOps.st 76 rfl rfl (op_load_m (i := 4) rfl ta_24 rfl rfl rfl rfl ⟨rfl, rfl⟩) ?_) | (refine DOps.st 76 rfl rfl (op_load_m (i := 5) rfl ta_24 rfl rfl rfl rfl ⟨rfl, rfl⟩) ?_) | (refine DOps.st 76 rfl rfl (op_load_c rfl ta_24 rfl rfl rfl ⟨rfl, rfl⟩) ?_)
          refine DOps.st 77 rfl rfl (op_callp (xs := [.tmp 73, .tmp 75, .tmp 76]) rfl rfl (HO hn) (by first | exact Les.refl _ | (repeat' (first | exact Les.refl _ | refine Les.cons ?_ ?_ | exact Le.refl _ | exact Le.own _ _ _ | exact Le.nil _ | refine Le.agg ?_))) ⟨rfl, rfl⟩) ?_
          first | (refine DOps.st 78 rfl rfl (op_load_m (i := 0) rfl ta_24 rfl rfl rfl rfl ⟨rfl, rfl⟩) ?_) | (refine DOps.st 78 rfl rfl (op_load_m (i := 1) rfl ta_24 rfl rfl rfl rfl ⟨rfl, rfl⟩) ?_) | (refine DOps.st 78 rfl rfl (op_load_m (i := 2) rfl ta_24 rfl rfl rfl rfl ⟨rfl, rfl⟩) ?_) | (refine DOps.st 78 rfl rfl (op_load_m (i := 3) rfl ta_24 rfl rfl rfl rfl ⟨rfl, rfl⟩) ?_) | (refine DOps.st 78 rfl rfl (op_load_m (i := 4) rfl ta_24 rfl rfl rfl rfl ⟨rfl, rfl⟩) ?_) | (refine DOps.st 78 rfl rfl (op_load_m (i := 5) rfl ta_24 rfl rfl rfl rfl ⟨rfl, rfl⟩) ?_) | (refine DOps.st 78 rfl rfl (op_load_c rfl ta_24 rfl rfl rfl ⟨rfl, rfl⟩) ?_)
          refine DOps.st 79 rfl rfl (op_callp (xs := [.tmp 77, .tmp 78]) rfl rfl ((SameType_c (.mk k s n ks) (.mk k s n ks)).yes rfl) (by first | exact Les.refl _ | (repeat' (first | exact Les.refl _ | refine Les.cons ?_ ?_ | exact Le.refl _ | exact Le.own _ _ _ | exact Le.nil _ | refine Le.agg ?_))) ⟨rfl, rfl⟩) ?_
          refine DOps.st 6 rfl rfl (op_assign rfl rfl ⟨rfl, rfl⟩) ?_
          show AGo _ _ _ _ _ _
          refine go_code ?_
          refine c_ret ?_
          exact out_tmp rfl rfl (Le.refl _) (MLe.refl _) rfl
        · refine c_cond_t rfl ?_
          refine c_skip ?_
          refine go_code ?_
          refine c_seq ?_
          refine c_block ?_
          refine c_seq ?_
          obtain ⟨x, hx⟩ := get_some (l := vs) (i := i) (by omega)
          have hcx := strs_get hx
          refine c_region ?_
          first | (refine AOps.st 66 rfl rfl rfl (op_index rfl te_27 rfl (.seq _ _) rfl rfl (by assumption) ?_)) | (refine AOps.st 66 rfl rfl rfl (op_index (i := 0) rfl te_27 rfl (.seq _ _) rfl rfl (by first | rfl | assumption) ?_)) | (refine AOps.st 66 rfl rfl rfl (op_index (i := 1) rfl te_27 rfl (.seq _ _) rfl rfl (by first | rfl | assumption) ?_)) | (refine AOps.st 66 rfl rfl rfl (op_index rfl te_27 rfl (.own _ _ _) rfl rfl (by assumption) ?_)) | (refine AOps.st 66 rfl rfl rfl (op_index (i := 0) rfl te_27 rfl (.own _ _ _) rfl rfl (by first | rfl | assumption) ?_)) | (refine AOps.st 66 rfl rfl rfl (op_index (i := 1) rfl te_27 rfl (.own _ _ _) rfl rfl (by first | rfl | assumption) ?_)) | (refine AOps.st 66 rfl rfl rfl (op_index_arr rfl te_27 rfl rfl rfl (by omega) ?_))
          first | (refine AOps.st 67 rfl rfl rfl (op_load_m1 (i := 0) rfl ta_9 rfl rfl rfl ?_)) | (refine AOps.st 67 rfl rfl rfl (op_load_m1 (i := 1) rfl ta_9 rfl rfl rfl ?_)) | (refine AOps.st 67 rfl rfl rfl (op_load_m1 (i := 2) rfl ta_9 rfl rfl rfl ?_)) | (refine AOps.st 67 rfl rfl rfl (op_load_m1 (i := 3) rfl ta_9 rfl rfl rfl ?_)) | (refine AOps.st 67 rfl rfl rfl (op_load_m1 (i := 4) rfl ta_9 rfl rfl rfl ?_)) | (refine AOps.st 67 rfl rfl rfl (op_load_m1 (i := 5) rfl ta_9 rfl rfl rfl ?_)) | (refine AOps.st 67 rfl rfl rfl (op_load_c1 rfl ta_9 rfl rfl ?_))
          refine AOps.st 12 rfl rfl rfl (op_assign rfl rfl ?_)
          refine AOps.nil ?_
          refine go_code ?_
          refine c_seq ?_
          refine c_region ?_
          refine AOps.st 68 rfl rfl rfl (op_move rfl rfl ?_)
          refine AOps.st 69 rfl rfl rfl (op_move rfl rfl ?_)
          refine AOps.st 70 rfl rfl rfl (op_seql rfl rfl rfl ?_); intro c70 h70
          refine AOps.nil ?_
          refine go_code ?_
          rcases bool_split h70 with ⟨rfl, g70⟩ | ⟨rfl, g70⟩
          · refine c_cond_f rfl ?_
            refine c_skip ?_
            refine go_blk ?_
            refine go_code ?_
            refine c_region ?_
            first | (refine AOps.st 71 rfl rfl rfl (op_add rfl rfl rfl (IntWalk.i64_in _ (by omega)) ?_)) | (refine AOps.st 71 rfl rfl rfl (op_add rfl rfl rfl rfl ?_))
            refine AOps.st 64 rfl rfl rfl (op_move rfl rfl ?_)
            refine AOps.nil ?_
            refine go_lp ?_
            exact ⟨i + 1, ⟨by omega, not_mem_take hn hx g70⟩, by simp; omega, (by repeat' (first | exact SLe.nil _ | refine SLe.cons rfl ?_ ?_ | exact Le.refl _ | exact Le.own _ _ _ | exact Le.nil _)), (by first | exact MLe.none _ | exact MLe.refl _ | (repeat' (first | exact MLe.nil | exact MLe.refl _ | refine MLe.cons _ ?_ | refine MLe.drop _ ?_)))⟩
          · refine c_cond_t rfl ?_
            refine c_seq ?_
            refine c_region ?_
            refine AOps.st 6 rfl rfl rfl (op_assign rfl rfl ?_)
            refine AOps.nil ?_
            refine go_code ?_
            refine c_ret ?_
            exact out_tmp rfl rfl (Le.refl _) (MLe.refl _) rfl
      · refine c_cond_t rfl ?_
        refine c_seq ?_
        exact g60.elim
    · refine c_cond_t rfl ?_
      refine c_seq ?_
      refine c_region ?_
      refine AOps.st 6 rfl rfl rfl (op_assign rfl rfl ?_)
      refine AOps.nil ?_
      refine go_code ?_
      refine c_ret ?_
      exact out_tmp rfl rfl (Le.refl _) (MLe.refl _) rfl
  · refine c_cond_t rfl ?_
    refine c_seq ?_
    exact absurd g14 (by simp)
theorem typesBack_own : ownKnob Try.prog.godebug = none := by kernel_rfl
theorem typesBack_laidOut : laidOutB Try.prog = true := by kernel_rfl
set_option maxRecDepth 100000 in
theorem typesBack_lifted (os : Os) (started : os.Started) (H : Type) (enc : TypeId × Value → H) :
    ReturnsInHanded {} Try.checked os 4 .any (Rows.typesBackSpec.pre6 enc Try.prog Try.f4 Rows.typesBackRow.domain false) (Rows.typesBackSpec.post enc Try.prog Try.f4 false true false false) := by
  refine returnsInHanded_of_change_sized (C := Try.checked) typesBack_own started (by kernel_rfl) Try.func4
    (ChangeSpec.witness6 (enc := enc) (C := Try.checked) false ⟨#[], #[.agg #[.int .i64 0, .string ⟨#[]⟩, .int .i64 0, .slice none 0 0], .agg #[.slice none 0 0, .slice none 0 0, .slice none 0 0], .string ⟨#[]⟩], []⟩ 8 (by kernel_rfl) (by kernel_rfl) (by kernel_rfl) (by kernel_rfl)) ?_
  intro W base args ds gs before hval0 hW hcnd hsz0 _
  have hval : ∀ (j : Nat) t v, Try.f4.params[j]? = some t → args[j]? = some v → Value.okWide Try.prog W .any base t v := hval0
  have hsz : (DataW.weightsEach Try.prog (Try.f4.params.toList ++ Rows.typesBackSpec.plain.varTypes Try.prog) (ds ++ gs)).all (· ≤ reachBytes) = true := hsz0
  have hW' := hW
  obtain ⟨p, q, hA0, hV, rfl, hfz, hnd⟩ := hW
  have hA : DataW.TrodAll enc Try.prog W 0 (fun _ => true) true Try.f4.params.toList args.toList ds p := hA0
  rw [Try.params4] at hA hval hsz
  obtain ⟨rfl, rfl⟩ := trodVars_none hV
  obtain ⟨v0, v1, v2, d0, d1, d2, p0, p1, p2, rfl, rfl, rfl, h0, h1, h2⟩ := trodAll_three hA
  obtain ⟨f0, c0, s0, r0, o0⟩ := open_one closed08 (by decide) h0
  obtain ⟨u, rfl⟩ := shape_ty _ _ s0
  obtain ⟨f1, c1, s1, r1, o1⟩ := open_one closed08 (by decide) h1
  obtain ⟨names, ts, subs, rfl⟩ := shape_turn s1
  obtain ⟨name, rfl, rfl, rfl, hs2⟩ := Go.ChangeMaps.open_string Try.underlying9 (hval 2 9 v2 rfl rfl) h2
  refine (law_run (TypesBack_c names ts subs u name) (.cons (rel_agg' (by cases u; simp [Ty.cells]) r0 o0) (.cons (rel_agg' (by simp) r1 o1) (.cons (.val _) .nil)))).mono fun e W' ⟨he, hb⟩ => ?_
  subst he
  exact ⟨_, rfl, law_post (tb := 4) typesBack_laidOut (by kernel_rfl) (by kernel_rfl) Try.underlying4 rfl rfl rfl rfl hW' hb⟩
theorem typesBack_holds : Rows.TypesBackSaid :=
  OpenClaim.holds_of_wide 4 Try.f4 rfl rfl rfl rfl rfl rfl rfl ⟨rfl, rfl, rfl, rfl, rfl⟩ rfl rfl rfl rfl rfl (by kernel_rfl) Try.func4 (by kernel_rfl)
    (of_decide_eq_true (by kernel_rfl)) (by unfold Func.isWrapper; first | (rw [if_pos (by decide +kernel)]; kernel_rfl) | (rw [if_neg (by decide +kernel)]; exact ⟨rfl, rfl⟩))
    (fun os started H enc _ => typesBack_lifted os started H enc)
#print axioms typesBack_holds
end Go.Proofs.Ytjgjnheeohfmmaa
