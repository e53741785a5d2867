/- TypesPut: types put in the places of names and of metas are the document's. No condition. -/
import Derived.Test.YtjgjnheeohfmmaaChecked
import Derived.Test.YtjgjnheeohfmmaaRows
import Derived.Test.YtjgjnheeohfmmaaT08
import Derived.Test.YtjgjnheeohfmmaaB08k
import Derived.Test.YtjgjnheeohfmmaaB08p
namespace Go.Proofs.Ytjgjnheeohfmmaa
open Go.ChangeShapes Go.WideShapes Go.ChangeAt Go.RowKit
theorem shape_subs {fuel : Nat} {cs : List AV} (h : ShapeC Try.prog fuel 34 cs) : ∃ ts : List (Int × Ty), cs = [.seq 5 (subss ts)] := by
  obtain ⟨n', es, _, rfl, h5⟩ := shape_slice tu_34 h
  obtain ⟨ts, rfl⟩ := pick_all (f := subCells) (fun x hx => by
    obtain ⟨n2, _, h⟩ := shape_struct Try.underlying53 (h5 x hx)
    simp only [ShapeF] at h
    obtain ⟨a1, b1, rfl, h1, a2, b2, rfl, h2, rfl⟩ := h
    obtain ⟨k, _, rfl⟩ := shape_int tu_3 h1
    obtain ⟨t, rfl⟩ := shape_ty _ _ h2
    exact ⟨(k, t), by simp [subCells]⟩)
  exact ⟨ts, by rw [show Try.prog.cellsOf 53 = 5 from by kernel_rfl]; rfl⟩
theorem shape_turn {fuel : Nat} {cs : List AV} (h : ShapeC Try.prog fuel 36 cs) : ∃ (names : List ByteArray) (ts : List Ty) (subs : List (Int × Ty)), cs = [.seq 1 (strs names), .seq 4 (Ty.cellss ts), .seq 5 (subss subs)] := by
  obtain ⟨n2, _, h⟩ := shape_struct Try.underlying36 h
  simp only [ShapeF] at h
  obtain ⟨a1, b1, rfl, h1, a2, b2, rfl, h2, a3, b3, rfl, h3, rfl⟩ := h
  obtain ⟨names, rfl⟩ := shape_strs h1
  obtain ⟨ts, rfl⟩ := shape_tys h2
  obtain ⟨subs, rfl⟩ := shape_subs h3
  exact ⟨names, ts, subs, rfl⟩
set_option maxRecDepth 100000 in
theorem TypesPut_c (names : List ByteArray) (ts : List Ty) (subs : List (Int × Ty)) (t : Ty) : ACall Try.prog 6 [.agg [.seq 1 (strs names), .seq 4 (Ty.cellss ts), .seq 5 (subss subs)], .agg t.cells] [] (fun v _ => v = .val (.bool true)) := by
  have hS := fun (h : t.small 200 = true) => (Ty.small_size (by omega) h).1
  have hT := fun (h : (∀ x ∈ ts, Ty.small x 100 = true) ∧ ts.length ≤ 30) (x : Ty) (hx : x ∈ ts) => (show x.size ≤ 1000000 from by have := (Ty.small_size (by omega) (h.1 x hx)).1; omega)
  have HP := fun h1 h2 => Put_c names ts t h1 h2
  have HRP := fun h1 h2 => rPut_c names h1 ts t.size t (Nat.le_refl _) h2
  have HA := fun h1 h2 => Apply_c subs t h1 h2
  have HRA := fun h2 => rApply_c subs t.size t (Nat.le_refl _) h2
  have HSm := Small_c t 200 (by omega) (by omega)
  have HSs := smalls_c ts 100 (by omega) (by omega)
  have hln := strs_len names
  have hlt := Ty.cellss_len ts
  have hls := subss_len subs
  generalize t.small 200 = bt at hS HSm
  generalize ((∀ x ∈ ts, Ty.small x 100 = true) ∧ ts.length ≤ 30) = bs at hT HSs
  generalize Ty.turn (putO names ts) t = r1 at HP HRP
  generalize Ty.turn (applyO subs) t = r2 at HA HRA
  generalize t.size = sz at *
  obtain ⟨k, s, n, ks⟩ := t
  refine ACall.enter Try.func6 rfl (by kernel_rfl) rfl (Nat.le_of_ble_eq_true rfl) ?_
  refine c_start ?_
  refine c_seq ?_
  refine c_region ?_
  refine AOps.st 2 rfl rfl rfl (op_box rfl rfl rfl ?_); intro b2
  refine AOps.st 3 rfl rfl rfl (op_box rfl rfl rfl ?_); intro b3
  refine AOps.st 4 rfl rfl rfl (op_assign rfl rfl ?_)
  refine AOps.nil ?_
  refine go_code ?_
  refine c_seq ?_
  refine c_seq ?_
  refine c_region ?_
  refine AOps.st 7 rfl rfl rfl (op_callp (xs := []) rfl rfl (awake08_c) (by first | exact Les.refl _ | (repeat' (first | exact Les.refl _ | refine Les.cons ?_ ?_ | exact Le.refl _ | exact Le.own _ _ _ | exact Le.nil _ | refine Le.agg ?_))) ?_)
  refine AOps.st 8 rfl rfl rfl (op_notc rfl rfl ?_); intro c8 h8
  try replace h8 := nott h8 h7
  refine AOps.nil ?_
  refine go_code ?_
  rcases bool_split h8 with ⟨rfl, g8⟩ | ⟨rfl, g8⟩
  · refine c_cond_f rfl ?_
    refine c_skip ?_
    refine go_code ?_
    refine c_seq ?_
    refine c_seq ?_
    refine c_bool 29 (¬ bt = true ∨ (30 : Int) < (strs names).length ∨ ¬ bs ∨ (30 : Int) < (subss subs).length) ?_ _ _ rfl ?_
    · skip
      first | (refine AOps.st 9 rfl rfl rfl (op_load_m (i := 0) rfl ta_24 rfl rfl rfl rfl ?_)) | (refine AOps.st 9 rfl rfl rfl (op_load_m (i := 1) rfl ta_24 rfl rfl rfl rfl ?_)) | (refine AOps.st 9 rfl rfl rfl (op_load_m (i := 2) rfl ta_24 rfl rfl rfl rfl ?_)) | (refine AOps.st 9 rfl rfl rfl (op_load_m (i := 3) rfl ta_24 rfl rfl rfl rfl ?_)) | (refine AOps.st 9 rfl rfl rfl (op_load_m (i := 4) rfl ta_24 rfl rfl rfl rfl ?_)) | (refine AOps.st 9 rfl rfl rfl (op_load_m (i := 5) rfl ta_24 rfl rfl rfl rfl ?_)) | (refine AOps.st 9 rfl rfl rfl (op_load_c rfl ta_24 rfl rfl rfl ?_))
      refine AOps.st 10 rfl rfl rfl (op_callb (xs := [.tmp 9, .const (.int .i64 200)]) rfl rfl (HSm) (by first | exact Les.refl _ | (repeat' (first | exact Les.refl _ | refine Les.cons ?_ ?_ | exact Le.refl _ | exact Le.own _ _ _ | exact Le.nil _ | refine Le.agg ?_))) ?_); intro c10 h10
      refine AOps.st 11 rfl rfl rfl (op_notc rfl rfl ?_); intro c11 h11
      try replace h11 := nott h11 h10
      refine AOps.st 12 rfl rfl rfl (op_move rfl rfl ?_)
      rcases bool_split h11 with ⟨rfl, g11⟩ | ⟨rfl, g11⟩
      · skip
        first | (refine AOps.gt 13 rfl rfl rfl rfl rfl (op_fieldAddr_m rfl tf_36_0 rfl ?_)) | (refine AOps.gt 13 rfl rfl rfl rfl rfl (op_fieldAddr_c rfl tf_36_0 rfl rfl ?_))
        first | (refine AOps.gt 14 rfl rfl rfl rfl rfl (op_load_m1 (i := 0) rfl ta_27 rfl rfl rfl ?_)) | (refine AOps.gt 14 rfl rfl rfl rfl rfl (op_load_m1 (i := 1) rfl ta_27 rfl rfl rfl ?_)) | (refine AOps.gt 14 rfl rfl rfl rfl rfl (op_load_m1 (i := 2) rfl ta_27 rfl rfl rfl ?_)) | (refine AOps.gt 14 rfl rfl rfl rfl rfl (op_load_m1 (i := 3) rfl ta_27 rfl rfl rfl ?_)) | (refine AOps.gt 14 rfl rfl rfl rfl rfl (op_load_m1 (i := 4) rfl ta_27 rfl rfl rfl ?_)) | (refine AOps.gt 14 rfl rfl rfl rfl rfl (op_load_m1 (i := 5) rfl ta_27 rfl rfl rfl ?_)) | (refine AOps.gt 14 rfl rfl rfl rfl rfl (op_load_c1 rfl ta_27 rfl rfl ?_))
        first | (refine AOps.gt 15 rfl rfl rfl rfl rfl (op_len rfl tu_27 rfl (.seq _ _) (fun n15 => ?_))) | (refine AOps.gt 15 rfl rfl rfl rfl rfl (op_len rfl tu_27 rfl (.own _ _ _) (fun n15 => ?_))) | (refine AOps.gt 15 rfl rfl rfl rfl rfl (op_len rfl tu_27 rfl (.nil 0) (fun n15 => ?_))) | (refine AOps.gt 15 rfl rfl rfl rfl rfl (op_len_arr rfl tu_27 rfl ?_))
        refine AOps.gt 16 rfl rfl rfl rfl rfl (op_gtr rfl rfl rfl ?_); intro c16 h16
        refine AOps.st 17 rfl rfl rfl (op_pick rfl rfl rfl ?_)
        refine AOps.st 18 rfl rfl rfl (op_move rfl rfl ?_)
        rcases bool_split h16 with ⟨rfl, g16⟩ | ⟨rfl, g16⟩
        · skip
          first | (refine AOps.gt 19 rfl rfl rfl rfl rfl (op_fieldAddr_m rfl tf_36_1 rfl ?_)) | (refine AOps.gt 19 rfl rfl rfl rfl rfl (op_fieldAddr_c rfl tf_36_1 rfl rfl ?_))
          first | (refine AOps.gt 20 rfl rfl rfl rfl rfl (op_load_m1 (i := 0) rfl ta_22 rfl rfl rfl ?_)) | (refine AOps.gt 20 rfl rfl rfl rfl rfl (op_load_m1 (i := 1) rfl ta_22 rfl rfl rfl ?_)) | (refine AOps.gt 20 rfl rfl rfl rfl rfl (op_load_m1 (i := 2) rfl ta_22 rfl rfl rfl ?_)) | (refine AOps.gt 20 rfl rfl rfl rfl rfl (op_load_m1 (i := 3) rfl ta_22 rfl rfl rfl ?_)) | (refine AOps.gt 20 rfl rfl rfl rfl rfl (op_load_m1 (i := 4) rfl ta_22 rfl rfl rfl ?_)) | (refine AOps.gt 20 rfl rfl rfl rfl rfl (op_load_m1 (i := 5) rfl ta_22 rfl rfl rfl ?_)) | (refine AOps.gt 20 rfl rfl rfl rfl rfl (op_load_c1 rfl ta_22 rfl rfl ?_))
          refine AOps.gt 21 rfl rfl rfl rfl rfl (op_callb (xs := [.tmp 20, .const (.int .i64 100)]) rfl rfl (HSs) (by first | exact Les.refl _ | (repeat' (first | exact Les.refl _ | refine Les.cons ?_ ?_ | exact Le.refl _ | exact Le.own _ _ _ | exact Le.nil _ | refine Le.agg ?_))) ?_); intro c21 h21
          refine AOps.gt 22 rfl rfl rfl rfl rfl (op_notc rfl rfl ?_); intro c22 h22
          try replace h22 := nott h22 h21
          refine AOps.st 23 rfl rfl rfl (op_pick rfl rfl rfl ?_)
          refine AOps.st 24 rfl rfl rfl (op_move rfl rfl ?_)
          rcases bool_split h22 with ⟨rfl, g22⟩ | ⟨rfl, g22⟩
          · skip
            first | (refine AOps.gt 25 rfl rfl rfl rfl rfl (op_fieldAddr_m rfl tf_36_2 rfl ?_)) | (refine AOps.gt 25 rfl rfl rfl rfl rfl (op_fieldAddr_c rfl tf_36_2 rfl rfl ?_))
            first | (refine AOps.gt 26 rfl rfl rfl rfl rfl (op_load_m1 (i := 0) rfl ta_34 rfl rfl rfl ?_)) | (refine AOps.gt 26 rfl rfl rfl rfl rfl (op_load_m1 (i := 1) rfl ta_34 rfl rfl rfl ?_)) | (refine AOps.gt 26 rfl rfl rfl rfl rfl (op_load_m1 (i := 2) rfl ta_34 rfl rfl rfl ?_)) | (refine AOps.gt 26 rfl rfl rfl rfl rfl (op_load_m1 (i := 3) rfl ta_34 rfl rfl rfl ?_)) | (refine AOps.gt 26 rfl rfl rfl rfl rfl (op_load_m1 (i := 4) rfl ta_34 rfl rfl rfl ?_)) | (refine AOps.gt 26 rfl rfl rfl rfl rfl (op_load_m1 (i := 5) rfl ta_34 rfl rfl rfl ?_)) | (refine AOps.gt 26 rfl rfl rfl rfl rfl (op_load_c1 rfl ta_34 rfl rfl ?_))
            first | (refine AOps.gt 27 rfl rfl rfl rfl rfl (op_len rfl tu_34 rfl (.seq _ _) (fun n27 => ?_))) | (refine AOps.gt 27 rfl rfl rfl rfl rfl (op_len rfl tu_34 rfl (.own _ _ _) (fun n27 => ?_))) | (refine AOps.gt 27 rfl rfl rfl rfl rfl (op_len rfl tu_34 rfl (.nil 0) (fun n27 => ?_))) | (refine AOps.gt 27 rfl rfl rfl rfl rfl (op_len_arr rfl tu_34 rfl ?_))
            refine AOps.gt 28 rfl rfl rfl rfl rfl (op_gtr rfl rfl rfl ?_); intro c28 h28
            refine AOps.st 29 rfl rfl rfl (op_pick rfl rfl rfl ?_)
            refine AOps.nil ?_
            refine BoolQ.mk rfl ?_ (by repeat' (first | exact SLe.wo _ _ | exact SLe.refl _ | refine SLe.fresh rfl ?_)) (by first | exact MLe.none _ | exact MLe.refl _ | (repeat' (first | exact MLe.nil | exact MLe.refl _ | refine MLe.cons _ ?_ | refine MLe.drop _ ?_)))
            clear hS hT HP HRP HA HRA HSm HSs hln hlt hls
            first | (simp_all; done) | (simp_all; omega)
          · skip
            refine AOps.gf 25 rfl rfl rfl rfl rfl ?_
            refine AOps.gf 26 rfl rfl rfl rfl rfl ?_
            refine AOps.gf 27 rfl rfl rfl rfl rfl ?_
            refine AOps.gf 28 rfl rfl rfl rfl rfl ?_
            refine AOps.st 29 rfl rfl rfl (op_pick rfl rfl rfl ?_)
            refine AOps.nil ?_
            refine BoolQ.mk rfl ?_ (by repeat' (first | exact SLe.wo _ _ | exact SLe.refl _ | refine SLe.fresh rfl ?_)) (by first | exact MLe.none _ | exact MLe.refl _ | (repeat' (first | exact MLe.nil | exact MLe.refl _ | refine MLe.cons _ ?_ | refine MLe.drop _ ?_)))
            clear hS hT HP HRP HA HRA HSm HSs hln hlt hls
            first | (simp_all; done) | (simp_all; omega)
        · skip
          refine AOps.gf 19 rfl rfl rfl rfl rfl ?_
          refine AOps.gf 20 rfl rfl rfl rfl rfl ?_
          refine AOps.gf 21 rfl rfl rfl rfl rfl ?_
          refine AOps.gf 22 rfl rfl rfl rfl rfl ?_
          refine AOps.st 23 rfl rfl rfl (op_pick rfl rfl rfl ?_)
          refine AOps.st 24 rfl rfl rfl (op_move rfl rfl ?_)
          refine AOps.gf 25 rfl rfl rfl rfl rfl ?_
          refine AOps.gf 26 rfl rfl rfl rfl rfl ?_
          refine AOps.gf 27 rfl rfl rfl rfl rfl ?_
          refine AOps.gf 28 rfl rfl rfl rfl rfl ?_
          refine AOps.st 29 rfl rfl rfl (op_pick rfl rfl rfl ?_)
          refine AOps.nil ?_
          refine BoolQ.mk rfl ?_ (by repeat' (first | exact SLe.wo _ _ | exact SLe.refl _ | refine SLe.fresh rfl ?_)) (by first | exact MLe.none _ | exact MLe.refl _ | (repeat' (first | exact MLe.nil | exact MLe.refl _ | refine MLe.cons _ ?_ | refine MLe.drop _ ?_)))
          clear hS hT HP HRP HA HRA HSm HSs hln hlt hls
          first | (simp_all; done) | (simp_all; omega)
      · skip
        refine AOps.gf 13 rfl rfl rfl rfl rfl ?_
        refine AOps.gf 14 rfl rfl rfl rfl rfl ?_
        refine AOps.gf 15 rfl rfl rfl rfl rfl ?_
        refine AOps.gf 16 rfl rfl rfl rfl rfl ?_
        refine AOps.st 17 rfl rfl rfl (op_pick rfl rfl rfl ?_)
        refine AOps.st 18 rfl rfl rfl (op_move rfl rfl ?_)
        refine AOps.gf 19 rfl rfl rfl rfl rfl ?_
        refine AOps.gf 20 rfl rfl rfl rfl rfl ?_
        refine AOps.gf 21 rfl rfl rfl rfl rfl ?_
        refine AOps.gf 22 rfl rfl rfl rfl rfl ?_
        refine AOps.st 23 rfl rfl rfl (op_pick rfl rfl rfl ?_)
        refine AOps.st 24 rfl rfl rfl (op_move rfl rfl ?_)
        refine AOps.gf 25 rfl rfl rfl rfl rfl ?_
        refine AOps.gf 26 rfl rfl rfl rfl rfl ?_
        refine AOps.gf 27 rfl rfl rfl rfl rfl ?_
        refine AOps.gf 28 rfl rfl rfl rfl rfl ?_
        refine AOps.st 29 rfl rfl rfl (op_pick rfl rfl rfl ?_)
        refine AOps.nil ?_
        refine BoolQ.mk rfl ?_ (by repeat' (first | exact SLe.wo _ _ | exact SLe.refl _ | refine SLe.fresh rfl ?_)) (by first | exact MLe.none _ | exact MLe.refl _ | (repeat' (first | exact MLe.nil | exact MLe.refl _ | refine MLe.cons _ ?_ | refine MLe.drop _ ?_)))
        clear hS hT HP HRP HA HRA HSm HSs hln hlt hls
        first | (simp_all; done) | (simp_all; omega)
    intro c29 h29
    refine go_code ?_
    rcases bool_split h29 with ⟨rfl, g29⟩ | ⟨rfl, g29⟩
    · refine c_cond_f rfl ?_
      refine c_skip ?_
      refine go_code ?_
      refine c_seq ?_
      refine c_seq ?_
      refine c_region ?_
      first | (refine AOps.st 30 rfl rfl rfl (op_fieldAddr_m rfl tf_36_2 rfl ?_)) | (refine AOps.st 30 rfl rfl rfl (op_fieldAddr_c rfl tf_36_2 rfl rfl ?_))
      first | (refine AOps.st 31 rfl rfl rfl (op_load_m1 (i := 0) rfl ta_34 rfl rfl rfl ?_)) | (refine AOps.st 31 rfl rfl rfl (op_load_m1 (i := 1) rfl ta_34 rfl rfl rfl ?_)) | (refine AOps.st 31 rfl rfl rfl (op_load_m1 (i := 2) rfl ta_34 rfl rfl rfl ?_)) | (refine AOps.st 31 rfl rfl rfl (op_load_m1 (i := 3) rfl ta_34 rfl rfl rfl ?_)) | (refine AOps.st 31 rfl rfl rfl (op_load_m1 (i := 4) rfl ta_34 rfl rfl rfl ?_)) | (refine AOps.st 31 rfl rfl rfl (op_load_m1 (i := 5) rfl ta_34 rfl rfl rfl ?_)) | (refine AOps.st 31 rfl rfl rfl (op_load_c1 rfl ta_34 rfl rfl ?_))
      first | (refine AOps.st 32 rfl rfl rfl (op_len rfl tu_34 rfl (.seq _ _) (fun n32 => ?_))) | (refine AOps.st 32 rfl rfl rfl (op_len rfl tu_34 rfl (.own _ _ _) (fun n32 => ?_))) | (refine AOps.st 32 rfl rfl rfl (op_len rfl tu_34 rfl (.nil 0) (fun n32 => ?_))) | (refine AOps.st 32 rfl rfl rfl (op_len_arr rfl tu_34 rfl ?_))
      refine AOps.st 33 rfl rfl rfl (op_move rfl rfl ?_)
      refine AOps.nil ?_
      refine go_code ?_
      refine c_block ?_
      refine c_loop (σ := Nat) (fun zz => match zz with | i => [(2, .ptr b2 0), (3, .ptr b3 0), (31, .seq 5 (subss subs)), (32, .val (.int .i64 (subss subs).length)), (33, .val (.int .i64 i))]) (fun zz => match zz with | i => [.loc b3 (Ty.cells (.mk k s n ks)), .loc b2 [.seq 1 (strs names), .seq 4 (Ty.cellss ts), .seq 5 (subss subs)]]) (fun zz => match zz with | i => i ≤ subs.length ∧ ∀ x ∈ subs.take i, Ty.small x.2 100 = true) (fun zz => match zz with | i => subs.length - i) (0) ?_ ?_ ?_ ?_
      · exact ⟨by omega, by simp⟩
      · exact (by repeat' (first | exact SLe.nil _ | refine SLe.cons rfl ?_ ?_ | exact Le.refl _ | exact Le.own _ _ _ | exact Le.nil _))
      · exact (by first | exact MLe.none _ | exact MLe.refl _ | (repeat' (first | exact MLe.nil | exact MLe.refl _ | refine MLe.cons _ ?_ | refine MLe.drop _ ?_)))
      rintro i hI
      try dsimp only at hI ⊢
      obtain ⟨hi, hu⟩ := hI
      have hbt : bt = true := Classical.not_not.1 (fun q => g29 (Or.inl q))
      have hnl : ¬ (30 : Int) < (strs names).length := fun q => g29 (Or.inr (Or.inl q))
      have hbs : bs := Classical.not_not.1 (fun q => g29 (Or.inr (Or.inr (Or.inl q))))
      have hsl : ¬ (30 : Int) < (subss subs).length := fun q => g29 (Or.inr (Or.inr (Or.inr q)))
      have hsz : sz ≤ 1000000 := by have := hS hbt; omega
      refine c_seq ?_
      refine c_region ?_
      refine AOps.st 34 rfl rfl rfl (op_lss rfl rfl rfl ?_); intro c34 h34
      refine AOps.nil ?_
      refine go_code ?_
      refine c_seq ?_
      rcases bool_split h34 with ⟨rfl, g34⟩ | ⟨rfl, g34⟩
      · refine c_cond_f rfl ?_
        refine c_exit ?_
        refine x_code ?_
        refine x_lp ?_
        refine x_here ?_
        refine go_code ?_
        refine c_seq ?_
        rw [List.take_of_length_le (by omega)] at hu
        have hsub : ∀ p ∈ subs, p.2.size ≤ 1000000 := fun p hp => by have := (Ty.small_size (by omega) (hu p hp)).1; omega
        refine c_boold 4 (True) tmix rfl ?_ _ _ rfl ?_
        · skip
          first | (refine DOps.st 42 rfl rfl (op_fieldAddr_m rfl tf_36_0 rfl ⟨rfl, rfl⟩) ?_) | (refine DOps.st 42 rfl rfl (op_fieldAddr_c rfl tf_36_0 rfl rfl ⟨rfl, rfl⟩) ?_)
          first | (refine DOps.st 43 rfl rfl (op_load_m1 (i := 0) rfl ta_27 rfl rfl rfl ⟨rfl, rfl⟩) ?_) | (refine DOps.st 43 rfl rfl (op_load_m1 (i := 1) rfl ta_27 rfl rfl rfl ⟨rfl, rfl⟩) ?_) | (refine DOps.st 43 rfl rfl (op_load_m1 (i := 2) rfl ta_27 rfl rfl rfl ⟨rfl, rfl⟩) ?_) | (refine DOps.st 43 rfl rfl (op_load_m1 (i := 3) rfl ta_27 rfl rfl rfl ⟨rfl, rfl⟩) ?_) | (refine DOps.st 43 rfl rfl (op_load_m1 (i := 4) rfl ta_27 rfl rfl rfl ⟨rfl, rfl⟩) ?_) | (refine DOps.st 43 rfl rfl (op_load_m1 (i := 5) rfl ta_27 rfl rfl rfl ⟨rfl, rfl⟩) ?_) | (refine DOps.st 43 rfl rfl (op_load_c1 rfl ta_27 rfl rfl ⟨rfl, rfl⟩) ?_)
          first | (refine DOps.st 44 rfl rfl (op_fieldAddr_m rfl tf_36_1 rfl ⟨rfl, rfl⟩) ?_) | (refine DOps.st 44 rfl rfl (op_fieldAddr_c rfl tf_36_1 rfl rfl ⟨rfl, rfl⟩) ?_)
          first | (refine DOps.st 45 rfl rfl (op_load_m1 (i := 0) rfl ta_22 rfl rfl rfl ⟨rfl, rfl⟩) ?_) | (refine DOps.st 45 rfl rfl (op_load_m1 (i := 1) rfl ta_22 rfl rfl rfl ⟨rfl, rfl⟩) ?_) | (refine DOps.st 45 rfl rfl (op_load_m1 (i := 2) rfl ta_22 rfl rfl rfl ⟨rfl, rfl⟩) ?_) | (refine DOps.st 45 rfl rfl (op_load_m1 (i := 3) rfl ta_22 rfl rfl rfl ⟨rfl, rfl⟩) ?_) | (refine DOps.st 45 rfl rfl (op_load_m1 (i := 4) rfl ta_22 rfl rfl rfl ⟨rfl, rfl⟩) ?_) | (refine DOps.st 45 rfl rfl (op_load_m1 (i := 5) rfl ta_22 rfl rfl rfl ⟨rfl, rfl⟩) ?_) | (refine DOps.st 45 rfl rfl (op_load_c1 rfl ta_22 rfl rfl ⟨rfl, rfl⟩) ?_)
          first | (refine DOps.st 46 rfl rfl (op_load_m (i := 0) rfl ta_24 rfl rfl rfl rfl ⟨rfl, rfl⟩) ?_) | (refine DOps.st 46 rfl rfl (op_load_m (i := 1) rfl ta_24 rfl rfl rfl rfl ⟨rfl, rfl⟩) ?_) | (refine DOps.st 46 rfl rfl (op_load_m (i := 2) rfl ta_24 rfl rfl rfl rfl ⟨rfl, rfl⟩) ?_) | (refine DOps.st 46 rfl rfl (op_load_m (i := 3) rfl ta_24 rfl rfl rfl rfl ⟨rfl, rfl⟩) ?_) | (refine DOps.st 46 rfl rfl (op_load_m (i := 4) rfl ta_24 rfl rfl rfl rfl ⟨rfl, rfl⟩) ?_) | (refine DOps.st 46 rfl rfl (op_load_m (i := 5) rfl ta_24 rfl rfl rfl rfl ⟨rfl, rfl⟩) ?_) | (refine DOps.st 46 rfl rfl (op_load_c rfl ta_24 rfl rfl rfl ⟨rfl, rfl⟩) ?_)
          refine DOps.st 47 rfl rfl (op_callp (xs := [.tmp 43, .tmp 45, .tmp 46]) rfl rfl (HP (hT hbs) hsz) (by first | exact Les.refl _ | (repeat' (first | exact Les.refl _ | refine Les.cons ?_ ?_ | exact Le.refl _ | exact Le.own _ _ _ | exact Le.nil _ | refine Le.agg ?_))) ⟨rfl, rfl⟩) ?_
          first | (refine DOps.st 48 rfl rfl (op_fieldAddr_m rfl tf_36_0 rfl ⟨rfl, rfl⟩) ?_) | (refine DOps.st 48 rfl rfl (op_fieldAddr_c rfl tf_36_0 rfl rfl ⟨rfl, rfl⟩) ?_)
          first | (refine DOps.st 49 rfl rfl (op_load_m1 (i := 0) rfl ta_27 rfl rfl rfl ⟨rfl, rfl⟩) ?_) | (refine DOps.st 49 rfl rfl (op_load_m1 (i := 1) rfl ta_27 rfl rfl rfl ⟨rfl, rfl⟩) ?_) | (refine DOps.st 49 rfl rfl (op_load_m1 (i := 2) rfl ta_27 rfl rfl rfl ⟨rfl, rfl⟩) ?_) | (refine DOps.st 49 rfl rfl (op_load_m1 (i := 3) rfl ta_27 rfl rfl rfl ⟨rfl, rfl⟩) ?_) | (refine DOps.st 49 rfl rfl (op_load_m1 (i := 4) rfl ta_27 rfl rfl rfl ⟨rfl, rfl⟩) ?_) | (refine DOps.st 49 rfl rfl (op_load_m1 (i := 5) rfl ta_27 rfl rfl rfl ⟨rfl, rfl⟩) ?_) | (refine DOps.st 49 rfl rfl (op_load_c1 rfl ta_27 rfl rfl ⟨rfl, rfl⟩) ?_)
          first | (refine DOps.st 50 rfl rfl (op_fieldAddr_m rfl tf_36_1 rfl ⟨rfl, rfl⟩) ?_) | (refine DOps.st 50 rfl rfl (op_fieldAddr_c rfl tf_36_1 rfl rfl ⟨rfl, rfl⟩) ?_)
          first | (refine DOps.st 51 rfl rfl (op_load_m1 (i := 0) rfl ta_22 rfl rfl rfl ⟨rfl, rfl⟩) ?_) | (refine DOps.st 51 rfl rfl (op_load_m1 (i := 1) rfl ta_22 rfl rfl rfl ⟨rfl, rfl⟩) ?_) | (refine DOps.st 51 rfl rfl (op_load_m1 (i := 2) rfl ta_22 rfl rfl rfl ⟨rfl, rfl⟩) ?_) | (refine DOps.st 51 rfl rfl (op_load_m1 (i := 3) rfl ta_22 rfl rfl rfl ⟨rfl, rfl⟩) ?_) | (refine DOps.st 51 rfl rfl (op_load_m1 (i := 4) rfl ta_22 rfl rfl rfl ⟨rfl, rfl⟩) ?_) | (refine DOps.st 51 rfl rfl (op_load_m1 (i := 5) rfl ta_22 rfl rfl rfl ⟨rfl, rfl⟩) ?_) | (refine DOps.st 51 rfl rfl (op_load_c1 rfl ta_22 rfl rfl ⟨rfl, rfl⟩) ?_)
          first | (refine DOps.st 52 rfl rfl (op_load_m (i := 0) rfl ta_24 rfl rfl rfl rfl ⟨rfl, rfl⟩) ?_) | (refine DOps.st 52 rfl rfl (op_load_m (i := 1) rfl ta_24 rfl rfl rfl rfl ⟨rfl, rfl⟩) ?_) | (refine DOps.st 52 rfl rfl (op_load_m (i := 2) rfl ta_24 rfl rfl rfl rfl ⟨rfl, rfl⟩) ?_) | (refine DOps.st 52 rfl rfl (op_load_m (i := 3) rfl ta_24 rfl rfl rfl rfl ⟨rfl, rfl⟩) ?_) | (refine DOps.st 52 rfl rfl (op_load_m (i := 4) rfl ta_24 rfl rfl rfl rfl ⟨rfl, rfl⟩) ?_) | (refine DOps.st 52 rfl rfl (op_load_m (i := 5) rfl ta_24 rfl rfl rfl rfl ⟨rfl, rfl⟩) ?_) | (refine DOps.st 52 rfl rfl (op_load_c rfl ta_24 rfl rfl rfl ⟨rfl, rfl⟩) ?_)
          refine DOps.st 53 rfl rfl (op_callp (xs := [.tmp 49, .tmp 51, .tmp 52]) rfl rfl (HRP (by omega) hsz) (by first | exact Les.refl _ | (repeat' (first | exact Les.refl _ | refine Les.cons ?_ ?_ | exact Le.refl _ | exact Le.own _ _ _ | exact Le.nil _ | refine Le.agg ?_))) ⟨rfl, rfl⟩) ?_
          refine DOps.st 54 rfl rfl (op_callp (xs := [.tmp 47, .tmp 53]) rfl rfl ((SameType_c r1 r1).yes rfl) (by first | exact Les.refl _ | (repeat' (first | exact Les.refl _ | refine Les.cons ?_ ?_ | exact Le.refl _ | exact Le.own _ _ _ | exact Le.nil _ | refine Le.agg ?_))) ⟨rfl, rfl⟩) ?_
          refine DOps.st 55 rfl rfl (op_move rfl rfl ⟨rfl, rfl⟩) ?_
          first | (refine DOps.gt 56 rfl rfl rfl rfl (op_fieldAddr_m rfl tf_36_2 rfl ⟨rfl, rfl⟩) ?_) | (refine DOps.gt 56 rfl rfl rfl rfl (op_fieldAddr_c rfl tf_36_2 rfl rfl ⟨rfl, rfl⟩) ?_)
          first | (refine DOps.gt 57 rfl rfl rfl rfl (op_load_m1 (i := 0) rfl ta_34 rfl rfl rfl ⟨rfl, rfl⟩) ?_) | (refine DOps.gt 57 rfl rfl rfl rfl (op_load_m1 (i := 1) rfl ta_34 rfl rfl rfl ⟨rfl, rfl⟩) ?_) | (refine DOps.gt 57 rfl rfl rfl rfl (op_load_m1 (i := 2) rfl ta_34 rfl rfl rfl ⟨rfl, rfl⟩) ?_) | (refine DOps.gt 57 rfl rfl rfl rfl (op_load_m1 (i := 3) rfl ta_34 rfl rfl rfl ⟨rfl, rfl⟩) ?_) | (refine DOps.gt 57 rfl rfl rfl rfl (op_load_m1 (i := 4) rfl ta_34 rfl rfl rfl ⟨rfl, rfl⟩) ?_) | (refine DOps.gt 57 rfl rfl rfl rfl (op_load_m1 (i := 5) rfl ta_34 rfl rfl rfl ⟨rfl, rfl⟩) ?_) | (refine DOps.gt 57 rfl rfl rfl rfl (op_load_c1 rfl ta_34 rfl rfl ⟨rfl, rfl⟩) ?_)
          first | (refine DOps.gt 58 rfl rfl rfl rfl (op_load_m (i := 0) rfl ta_24 rfl rfl rfl rfl ⟨rfl, rfl⟩) ?_) | (refine DOps.gt 58 rfl rfl rfl rfl (op_load_m (i := 1) rfl ta_24 rfl rfl rfl rfl ⟨rfl, rfl⟩) ?_) | (refine DOps.gt 58 rfl rfl rfl rfl (op_load_m (i := 2) rfl ta_24 rfl rfl rfl rfl ⟨rfl, rfl⟩) ?_) | (refine DOps.gt 58 rfl rfl rfl rfl (op_load_m (i := 3) rfl ta_24 rfl rfl rfl rfl ⟨rfl, rfl⟩) ?_) | (refine DOps.gt 58 rfl rfl rfl rfl (op_load_m (i := 4) rfl ta_24 rfl rfl rfl rfl ⟨rfl, rfl⟩) ?_) | (refine DOps.gt 58 rfl rfl rfl rfl (op_load_m (i := 5) rfl ta_24 rfl rfl rfl rfl ⟨rfl, rfl⟩) ?_) | (refine DOps.gt 58 rfl rfl rfl rfl (op_load_c rfl ta_24 rfl rfl rfl ⟨rfl, rfl⟩) ?_)
          refine DOps.gt 59 rfl rfl rfl rfl (op_callp (xs := [.tmp 57, .tmp 58]) rfl rfl (HA hsub hsz) (by first | exact Les.refl _ | (repeat' (first | exact Les.refl _ | refine Les.cons ?_ ?_ | exact Le.refl _ | exact Le.own _ _ _ | exact Le.nil _ | refine Le.agg ?_))) ⟨rfl, rfl⟩) ?_
          first | (refine DOps.gt 60 rfl rfl rfl rfl (op_fieldAddr_m rfl tf_36_2 rfl ⟨rfl, rfl⟩) ?_) | (refine DOps.gt 60 rfl rfl rfl rfl (op_fieldAddr_c rfl tf_36_2 rfl rfl ⟨rfl, rfl⟩) ?_)
          first | (refine DOps.gt 61 rfl rfl rfl rfl (op_load_m1 (i := 0) rfl ta_34 rfl rfl rfl ⟨rfl, rfl⟩) ?_) | (refine DOps.gt 61 rfl rfl rfl rfl (op_load_m1 (i := 1) rfl ta_34 rfl rfl rfl ⟨rfl, rfl⟩) ?_) | (refine DOps.gt 61 rfl rfl rfl rfl (op_load_m1 (i := 2) rfl ta_34 rfl rfl rfl ⟨rfl, rfl⟩) ?_) | (refine DOps.gt 61 rfl rfl rfl rfl (op_load_m1 (i := 3) rfl ta_34 rfl rfl rfl ⟨rfl, rfl⟩) ?_) | (refine DOps.gt 61 rfl rfl rfl rfl (op_load_m1 (i := 4) rfl ta_34 rfl rfl rfl ⟨rfl, rfl⟩) ?_) | (refine DOps.gt 61 rfl rfl rfl rfl (op_load_m1 (i := 5) rfl ta_34 rfl rfl rfl ⟨rfl, rfl⟩) ?_) | (refine DOps.gt 61 rfl rfl rfl rfl (op_load_c1 rfl ta_34 rfl rfl ⟨rfl, rfl⟩) ?_)
          first | (refine DOps.gt 62 rfl rfl rfl rfl (op_load_m (i := 0) rfl ta_24 rfl rfl rfl rfl ⟨rfl, rfl⟩) ?_) | (refine DOps.gt 62 rfl rfl rfl rfl (op_load_m (i := 1) rfl ta_24 rfl rfl rfl rfl ⟨rfl, rfl⟩) ?_) | (refine DOps.gt 62 rfl rfl rfl rfl (op_load_m (i := 2) rfl ta_24 rfl rfl rfl rfl ⟨rfl, rfl⟩) ?_) | (refine DOps.gt 62 rfl rfl rfl rfl (op_load_m (i := 3) rfl ta_24 rfl rfl rfl rfl ⟨rfl, rfl⟩) ?_) | (refine DOps.gt 62 rfl rfl rfl rfl (op_load_m (i := 4) rfl ta_24 rfl rfl rfl rfl ⟨rfl, rfl⟩) ?_) | (refine DOps.gt 62 rfl rfl rfl rfl (op_load_m (i := 5) rfl ta_24 rfl rfl rfl rfl ⟨rfl, rfl⟩) ?_) | (refine DOps.gt 62 rfl rfl rfl rfl (op_load_c rfl ta_24 rfl rfl rfl ⟨rfl, rfl⟩) ?_)
          refine DOps.gt 63 rfl rfl rfl rfl (op_callp (xs := [.tmp 61, .tmp 62]) rfl rfl (HRA hsz) (by first | exact Les.refl _ | (repeat' (first | exact Les.refl _ | refine Les.cons ?_ ?_ | exact Le.refl _ | exact Le.own _ _ _ | exact Le.nil _ | refine Le.agg ?_))) ⟨rfl, rfl⟩) ?_
          refine DOps.gt 64 rfl rfl rfl rfl (op_callp (xs := [.tmp 59, .tmp 63]) rfl rfl ((SameType_c r2 r2).yes rfl) (by first | exact Les.refl _ | (repeat' (first | exact Les.refl _ | refine Les.cons ?_ ?_ | exact Le.refl _ | exact Le.own _ _ _ | exact Le.nil _ | refine Le.agg ?_))) ⟨rfl, rfl⟩) ?_
          refine DOps.st 65 rfl rfl (op_pick rfl rfl rfl ⟨rfl, rfl⟩) ?_
          refine DOps.st 4 rfl rfl (op_assign rfl rfl ⟨rfl, rfl⟩) ?_
          show BoolQ _ _ _ _ _ _
          refine BoolQ.mk rfl ?_ (by repeat' (first | exact SLe.wo _ _ | exact SLe.refl _ | refine SLe.fresh rfl ?_)) (by first | exact MLe.none _ | exact MLe.refl _ | (repeat' (first | exact MLe.nil | exact MLe.refl _ | refine MLe.cons _ ?_ | refine MLe.drop _ ?_)))
          exact iff_t trivial
        intro c4 h4
        refine go_code ?_
        refine c_ret ?_
        exact out_tmp rfl rfl (Le.refl _) (MLe.refl _) (by rw [h4.2 trivial])
      · refine c_cond_t rfl ?_
        refine c_skip ?_
        refine go_code ?_
        refine c_seq ?_
        refine c_block ?_
        refine c_seq ?_
        obtain ⟨⟨pn, ⟨yk, ys, yn, yks⟩⟩, hy⟩ := get_some (l := subs) (i := i) (by omega)
        have hcy := subss_get hy
        refine c_region ?_
        first | (refine AOps.st 35 rfl rfl rfl (op_index rfl te_34 rfl (.seq _ _) rfl rfl (by assumption) ?_)) | (refine AOps.st 35 rfl rfl rfl (op_index (i := 0) rfl te_34 rfl (.seq _ _) rfl rfl (by first | rfl | assumption) ?_)) | (refine AOps.st 35 rfl rfl rfl (op_index (i := 1) rfl te_34 rfl (.seq _ _) rfl rfl (by first | rfl | assumption) ?_)) | (refine AOps.st 35 rfl rfl rfl (op_index rfl te_34 rfl (.own _ _ _) rfl rfl (by assumption) ?_)) | (refine AOps.st 35 rfl rfl rfl (op_index (i := 0) rfl te_34 rfl (.own _ _ _) rfl rfl (by first | rfl | assumption) ?_)) | (refine AOps.st 35 rfl rfl rfl (op_index (i := 1) rfl te_34 rfl (.own _ _ _) rfl rfl (by first | rfl | assumption) ?_)) | (refine AOps.st 35 rfl rfl rfl (op_index_arr rfl te_34 rfl rfl rfl (by omega) ?_))
        first | (refine AOps.st 36 rfl rfl rfl (op_load_m (i := 0) rfl ta_53 rfl rfl rfl rfl ?_)) | (refine AOps.st 36 rfl rfl rfl (op_load_m (i := 1) rfl ta_53 rfl rfl rfl rfl ?_)) | (refine AOps.st 36 rfl rfl rfl (op_load_m (i := 2) rfl ta_53 rfl rfl rfl rfl ?_)) | (refine AOps.st 36 rfl rfl rfl (op_load_m (i := 3) rfl ta_53 rfl rfl rfl rfl ?_)) | (refine AOps.st 36 rfl rfl rfl (op_load_m (i := 4) rfl ta_53 rfl rfl rfl rfl ?_)) | (refine AOps.st 36 rfl rfl rfl (op_load_m (i := 5) rfl ta_53 rfl rfl rfl rfl ?_)) | (refine AOps.st 36 rfl rfl rfl (op_load_c rfl ta_53 rfl rfl rfl ?_))
        refine AOps.st 6 rfl rfl rfl (op_alloc rfl tz_53 rfl ?_); intro b6
        first | (refine AOps.st0 rfl rfl (op_store (i := 0) rfl ts_53 rfl rfl rfl rfl rfl (Nat.le_of_ble_eq_true rfl) rfl ?_)) | (refine AOps.st0 rfl rfl (op_store (i := 1) rfl ts_53 rfl rfl rfl rfl rfl (Nat.le_of_ble_eq_true rfl) rfl ?_)) | (refine AOps.st0 rfl rfl (op_store (i := 2) rfl ts_53 rfl rfl rfl rfl rfl (Nat.le_of_ble_eq_true rfl) rfl ?_)) | (refine AOps.st0 rfl rfl (op_store (i := 3) rfl ts_53 rfl rfl rfl rfl rfl (Nat.le_of_ble_eq_true rfl) rfl ?_)) | (refine AOps.st0 rfl rfl (op_store (i := 4) rfl ts_53 rfl rfl rfl rfl rfl (Nat.le_of_ble_eq_true rfl) rfl ?_)) | (refine AOps.st0 rfl rfl (op_store (i := 5) rfl ts_53 rfl rfl rfl rfl rfl (Nat.le_of_ble_eq_true rfl) rfl ?_))
        refine AOps.nil ?_
        refine go_code ?_
        refine c_seq ?_
        refine c_region ?_
        first | (refine AOps.st 37 rfl rfl rfl (op_fieldAddr_m rfl tf_53_1 rfl ?_)) | (refine AOps.st 37 rfl rfl rfl (op_fieldAddr_c rfl tf_53_1 rfl rfl ?_))
        first | (refine AOps.st 38 rfl rfl rfl (op_load_m (i := 0) rfl ta_24 rfl rfl rfl rfl ?_)) | (refine AOps.st 38 rfl rfl rfl (op_load_m (i := 1) rfl ta_24 rfl rfl rfl rfl ?_)) | (refine AOps.st 38 rfl rfl rfl (op_load_m (i := 2) rfl ta_24 rfl rfl rfl rfl ?_)) | (refine AOps.st 38 rfl rfl rfl (op_load_m (i := 3) rfl ta_24 rfl rfl rfl rfl ?_)) | (refine AOps.st 38 rfl rfl rfl (op_load_m (i := 4) rfl ta_24 rfl rfl rfl rfl ?_)) | (refine AOps.st 38 rfl rfl rfl (op_load_m (i := 5) rfl ta_24 rfl rfl rfl rfl ?_)) | (refine AOps.st 38 rfl rfl rfl (op_load_c rfl ta_24 rfl rfl rfl ?_))
        refine AOps.st 39 rfl rfl rfl (op_callb (xs := [.tmp 38, .const (.int .i64 100)]) rfl rfl (Small_c (.mk yk ys yn yks) 100 (by omega) (by omega)) (by first | exact Les.refl _ | (repeat' (first | exact Les.refl _ | refine Les.cons ?_ ?_ | exact Le.refl _ | exact Le.own _ _ _ | exact Le.nil _ | refine Le.agg ?_))) ?_); intro c39 h39
        refine AOps.st 40 rfl rfl rfl (op_notc rfl rfl ?_); intro c40 h40
        try replace h40 := nott h40 h39
        refine AOps.nil ?_
        refine go_code ?_
        rcases bool_split h40 with ⟨rfl, g40⟩ | ⟨rfl, g40⟩
        · refine c_cond_f rfl ?_
          refine c_skip ?_
          refine go_blk ?_
          refine go_code ?_
          refine c_region ?_
          first | (refine AOps.st 41 rfl rfl rfl (op_add rfl rfl rfl (IntWalk.i64_in _ (by omega)) ?_)) | (refine AOps.st 41 rfl rfl rfl (op_add rfl rfl rfl rfl ?_))
          refine AOps.st 33 rfl rfl rfl (op_move rfl rfl ?_)
          refine AOps.nil ?_
          refine go_lp ?_
          refine ⟨i + 1, ⟨by omega, ?_⟩, by simp; omega, (by repeat' (first | exact SLe.nil _ | refine SLe.cons rfl ?_ ?_ | exact Le.refl _ | exact Le.own _ _ _ | exact Le.nil _)), (by first | exact MLe.none _ | exact MLe.refl _ | (repeat' (first | exact MLe.nil | exact MLe.refl _ | refine MLe.cons _ ?_ | refine MLe.drop _ ?_)))⟩
          rw [take_snoc hy]
          intro x hx
          rcases List.mem_append.1 hx with q | q
          · exact hu x q
          · simp at q; subst q; exact Classical.not_not.1 g40
        · refine c_cond_t rfl ?_
          refine c_seq ?_
          refine c_region ?_
          refine AOps.st 4 rfl rfl rfl (op_assign rfl rfl ?_)
          refine AOps.nil ?_
          refine go_code ?_
          refine c_ret ?_
          exact out_tmp rfl rfl (Le.refl _) (MLe.refl _) rfl
    · refine c_cond_t rfl ?_
      refine c_seq ?_
      refine c_region ?_
      refine AOps.st 4 rfl rfl rfl (op_assign rfl rfl ?_)
      refine AOps.nil ?_
      refine go_code ?_
      refine c_ret ?_
      exact out_tmp rfl rfl (Le.refl _) (MLe.refl _) rfl
  · refine c_cond_t rfl ?_
    refine c_seq ?_
    exact absurd g8 (by simp)
theorem typesPut_own : ownKnob Try.prog.godebug = none := by kernel_rfl
theorem typesPut_laidOut : laidOutB Try.prog = true := by kernel_rfl
set_option maxRecDepth 100000 in
theorem typesPut_lifted (os : Os) (started : os.Started) (H : Type) (enc : TypeId × Value → H) :
    ReturnsInHanded {} Try.checked os 6 .any (Rows.typesPutSpec.pre6 enc Try.prog Try.f6 Rows.typesPutRow.domain false) (Rows.typesPutSpec.post enc Try.prog Try.f6 false true false false) := by
  refine returnsInHanded_of_change_sized (C := Try.checked) typesPut_own started (by kernel_rfl) Try.func6
    (ChangeSpec.witness6 (enc := enc) (C := Try.checked) false ⟨#[], #[.agg #[.slice none 0 0, .slice none 0 0, .slice none 0 0], .agg #[.int .i64 0, .string ⟨#[]⟩, .int .i64 0, .slice none 0 0]], []⟩ 8 (by kernel_rfl) (by kernel_rfl) (by kernel_rfl) (by kernel_rfl)) ?_
  intro W base args ds gs before hval0 hW hcnd hsz0 _
  have hval : ∀ (j : Nat) t v, Try.f6.params[j]? = some t → args[j]? = some v → Value.okWide Try.prog W .any base t v := hval0
  have hsz : (DataW.weightsEach Try.prog (Try.f6.params.toList ++ Rows.typesPutSpec.plain.varTypes Try.prog) (ds ++ gs)).all (· ≤ reachBytes) = true := hsz0
  have hW' := hW
  obtain ⟨p, q, hA0, hV, rfl, hfz, hnd⟩ := hW
  have hA : DataW.TrodAll enc Try.prog W 0 (fun _ => true) true Try.f6.params.toList args.toList ds p := hA0
  rw [Try.params6] at hA hval hsz
  obtain ⟨rfl, rfl⟩ := trodVars_none hV
  obtain ⟨v0, v1, d0, d1, p0, p1, rfl, rfl, rfl, h0, h1⟩ := trodAll_two hA
  obtain ⟨f0, c0, s0, r0, o0⟩ := open_one closed08 (by decide) h0
  obtain ⟨names, ts, subs, rfl⟩ := shape_turn s0
  obtain ⟨f1, c1, s1, r1, o1⟩ := open_one closed08 (by decide) h1
  obtain ⟨u, rfl⟩ := shape_ty _ _ s1
  refine (law_run (TypesPut_c names ts subs u) (.cons (rel_agg' (by simp) r0 o0) (.cons (rel_agg' (by cases u; simp [Ty.cells]) r1 o1) .nil))).mono fun e W' ⟨he, hb⟩ => ?_
  subst he
  exact ⟨_, rfl, law_post (tb := 4) typesPut_laidOut (by kernel_rfl) (by kernel_rfl) Try.underlying4 rfl rfl rfl rfl hW' hb⟩
theorem typesPut_holds : Rows.TypesPutSaid :=
  OpenClaim.holds_of_wide 6 Try.f6 rfl rfl rfl rfl rfl rfl rfl ⟨rfl, rfl, rfl, rfl, rfl⟩ rfl rfl rfl rfl rfl (by kernel_rfl) Try.func6 (by kernel_rfl)
    (of_decide_eq_true (by kernel_rfl)) (by unfold Func.isWrapper; first | (rw [if_pos (by decide +kernel)]; kernel_rfl) | (rw [if_neg (by decide +kernel)]; exact ⟨rfl, rfl⟩))
    (fun os started H enc _ => typesPut_lifted os started H enc)
#print axioms typesPut_holds
end Go.Proofs.Ytjgjnheeohfmmaa
