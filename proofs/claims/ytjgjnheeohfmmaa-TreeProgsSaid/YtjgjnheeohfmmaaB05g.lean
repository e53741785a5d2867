/- slices.EqualFunc and tree.same, for lists of declarations: alike under a map (printed by wip/gend.py). -/
import Derived.Test.YtjgjnheeohfmmaaB05e
import Derived.Test.YtjgjnheeohfmmaaPG
namespace Go.Proofs.Ytjgjnheeohfmmaa
open Go.RowKit
set_option maxHeartbeats 4000000 in
set_option maxRecDepth 100000 in
theorem EqF_Pr {β : Type} (f : Pr → β) (g : FuncId) (xs ys : List Pr) (hg : ∀ x ∈ xs, ∀ y, BCall Try.prog g [.agg x.cells, .agg y.cells] (f x = f y)) : BCall Try.prog 141 [.seq 5 (Pr.cellss xs), .seq 5 (Pr.cellss ys), .clo (.func g) [] []] (xs.map f = ys.map f) := by
  have hlx := Pr.cellss_len xs
  have hly := Pr.cellss_len ys
  refine ACall.enter Try.func141 rfl (by kernel_rfl) rfl (Nat.le_of_ble_eq_true rfl) ?_
  refine c_start ?_
  refine c_lens (t := 0) rfl (.seq _ _) (fun hmax => ?_)
  refine c_seq ?_
  refine c_region ?_
  refine AOps.st 6 rfl rfl rfl (op_assign rfl rfl ?_)
  refine AOps.nil ?_
  refine go_code ?_
  refine c_seq ?_
  refine c_seq ?_
  refine c_region ?_
  refine AOps.st 10 rfl rfl rfl (op_move rfl rfl ?_)
  refine AOps.st 11 rfl rfl rfl (op_len rfl tu_125 rfl (.seq _ _) (fun n11 => ?_))
  refine AOps.st 12 rfl rfl rfl (op_move rfl rfl ?_)
  refine AOps.st 13 rfl rfl rfl (op_len rfl tu_125 rfl (.seq _ _) (fun n13 => ?_))
  refine AOps.st 14 rfl rfl rfl (op_neq rfl rfl rfl ?_); intro c14 h14
  refine AOps.nil ?_
  refine go_code ?_
  rcases bool_split h14 with ⟨rfl, g14⟩ | ⟨rfl, g14⟩
  · refine c_cond_f rfl ?_
    refine c_skip ?_
    refine go_code ?_
    refine c_seq ?_
    refine c_seq ?_
    refine c_region ?_
    refine AOps.st 15 rfl rfl rfl (op_move rfl rfl ?_)
    refine AOps.st 16 rfl rfl rfl (op_len rfl tu_125 rfl (.seq _ _) (fun n16 => ?_))
    refine AOps.st 17 rfl rfl rfl (op_move rfl rfl ?_)
    refine AOps.nil ?_
    refine go_code ?_
    refine c_block ?_
    refine c_loop (σ := Nat) (fun zz => match zz with | i => [(0, .seq 5 (Pr.cellss xs)), (1, .seq 5 (Pr.cellss ys)), (2, .clo (.func g) [] []), (15, .seq 5 (Pr.cellss xs)), (16, .val (.int .i64 (Pr.cellss xs).length)), (17, .val (.int .i64 i))]) (fun zz => match zz with | i => []) (fun zz => match zz with | i => i ≤ xs.length ∧ Upto (xs.map f) (ys.map f) i) (fun zz => match zz with | i => xs.length - i) (0) ?_ ?_ ?_ ?_
    · exact ⟨by omega, Upto.zero _ _⟩
    · exact (by repeat' (first | exact SLe.nil _ | refine SLe.cons rfl ?_ ?_ | exact Le.refl _ | exact Le.own _ _ _ | exact Le.nil _))
    · exact (by first | exact MLe.none _ | exact MLe.refl _ | (repeat' (first | exact MLe.nil | exact MLe.refl _ | refine MLe.cons _ ?_ | refine MLe.drop _ ?_)))
    rintro i hI
    try dsimp only [List.cons_append, List.nil_append] at hI ⊢
    obtain ⟨hi, hu⟩ := hI
    refine c_seq ?_
    refine c_region ?_
    refine AOps.st 18 rfl rfl rfl (op_lss rfl rfl rfl ?_); intro c18 h18
    refine AOps.nil ?_
    refine go_code ?_
    refine c_seq ?_
    rcases bool_split h18 with ⟨rfl, g18⟩ | ⟨rfl, g18⟩
    · refine c_cond_f rfl ?_
      refine c_exit ?_
      refine x_code ?_
      refine x_lp ?_
      refine x_here ?_
      refine go_code ?_
      refine c_seq ?_
      refine c_region ?_
      refine AOps.st 6 rfl rfl rfl (op_assign rfl rfl ?_)
      refine AOps.nil ?_
      refine go_code ?_
      refine c_ret ?_
      exact out_tmp rfl rfl (Le.refl _) (by first | exact MLe.none _ | exact MLe.refl _ | (repeat' (first | exact MLe.nil | exact MLe.refl _ | refine MLe.cons _ ?_ | refine MLe.drop _ ?_))) ⟨⟨_, iff_t (hu.eq (by simp; omega) (by simp; omega)), rfl⟩, rfl⟩
    · refine c_cond_t rfl ?_
      refine c_skip ?_
      refine go_code ?_
      refine c_seq ?_
      refine c_block ?_
      refine c_seq ?_
      obtain ⟨⟨z1c, ⟨z1tk, z1ts, z1tn, z1tl⟩⟩, hx⟩ := get_some (l := xs) (i := i) (by omega)
      obtain ⟨⟨z2c, ⟨z2tk, z2ts, z2tn, z2tl⟩⟩, hy⟩ := get_some (l := ys) (i := i) (by omega)
      have hcx := Pr.cellss_get hx
      have hcy := Pr.cellss_get hy
      refine c_region ?_
      refine AOps.st 19 rfl rfl rfl (op_move rfl rfl ?_)
      refine AOps.st 20 rfl rfl rfl (op_index rfl te_125 rfl (.seq _ _) rfl rfl (by assumption) ?_)
      first | (refine AOps.st 21 rfl rfl rfl (op_load_m (cs' := [_, _, _, _, _]) (i := 0) rfl ta_157 rfl rfl rfl rfl ?_)) | (refine AOps.st 21 rfl rfl rfl (op_load_m (cs' := [_, _, _, _, _]) (i := 1) rfl ta_157 rfl rfl rfl rfl ?_)) | (refine AOps.st 21 rfl rfl rfl (op_load_m (cs' := [_, _, _, _, _]) (i := 2) rfl ta_157 rfl rfl rfl rfl ?_)) | (refine AOps.st 21 rfl rfl rfl (op_load_m (cs' := [_, _, _, _, _]) (i := 3) rfl ta_157 rfl rfl rfl rfl ?_)) | (refine AOps.st 21 rfl rfl rfl (op_load_m (cs' := [_, _, _, _, _]) (i := 4) rfl ta_157 rfl rfl rfl rfl ?_)) | (refine AOps.st 21 rfl rfl rfl (op_load_m (cs' := [_, _, _, _, _]) (i := 5) rfl ta_157 rfl rfl rfl rfl ?_)) | (refine AOps.st 21 rfl rfl rfl (op_load_c (cs' := [_, _, _, _, _]) rfl ta_157 rfl rfl rfl ?_))
      refine AOps.st 8 rfl rfl rfl (op_alloce (cs' := [_, _, _, _, _]) rfl tz_157 rfl rfl ?_); intro b8
      refine AOps.st 7 rfl rfl rfl (op_assign rfl rfl ?_)
      refine AOps.st0 rfl rfl (op_store (cs' := [_, _, _, _, _]) (i := 0) rfl ts_157 rfl rfl rfl rfl rfl (Nat.le_of_ble_eq_true rfl) rfl ?_)
      refine AOps.nil ?_
      refine go_code ?_
      refine c_seq ?_
      refine c_region ?_
      refine AOps.st 22 rfl rfl rfl (op_move rfl rfl ?_)
      refine AOps.st 23 rfl rfl rfl (op_move rfl rfl ?_)
      refine AOps.st 24 rfl rfl rfl (op_index rfl te_125 rfl (.seq _ _) rfl rfl (by assumption) ?_)
      first | (refine AOps.st 25 rfl rfl rfl (op_load_m (cs' := [_, _, _, _, _]) (i := 0) rfl ta_157 rfl rfl rfl rfl ?_)) | (refine AOps.st 25 rfl rfl rfl (op_load_m (cs' := [_, _, _, _, _]) (i := 1) rfl ta_157 rfl rfl rfl rfl ?_)) | (refine AOps.st 25 rfl rfl rfl (op_load_m (cs' := [_, _, _, _, _]) (i := 2) rfl ta_157 rfl rfl rfl rfl ?_)) | (refine AOps.st 25 rfl rfl rfl (op_load_m (cs' := [_, _, _, _, _]) (i := 3) rfl ta_157 rfl rfl rfl rfl ?_)) | (refine AOps.st 25 rfl rfl rfl (op_load_m (cs' := [_, _, _, _, _]) (i := 4) rfl ta_157 rfl rfl rfl rfl ?_)) | (refine AOps.st 25 rfl rfl rfl (op_load_m (cs' := [_, _, _, _, _]) (i := 5) rfl ta_157 rfl rfl rfl rfl ?_)) | (refine AOps.st 25 rfl rfl rfl (op_load_c (cs' := [_, _, _, _, _]) rfl ta_157 rfl rfl rfl ?_))
      refine AOps.st 9 rfl rfl rfl (op_alloce (cs' := [_, _, _, _, _]) rfl tz_157 rfl rfl ?_); intro b9
      refine AOps.st0 rfl rfl (op_store (cs' := [_, _, _, _, _]) (i := 0) rfl ts_157 rfl rfl rfl rfl rfl (Nat.le_of_ble_eq_true rfl) rfl ?_)
      refine AOps.nil ?_
      refine go_code ?_
      refine c_seq ?_
      refine c_region ?_
      refine AOps.st 26 rfl rfl rfl (op_move rfl rfl ?_)
      first | (refine AOps.st 27 rfl rfl rfl (op_load_m (cs' := [_, _, _, _, _]) (i := 0) rfl ta_157 rfl rfl rfl rfl ?_)) | (refine AOps.st 27 rfl rfl rfl (op_load_m (cs' := [_, _, _, _, _]) (i := 1) rfl ta_157 rfl rfl rfl rfl ?_))
      refine AOps.st 28 rfl rfl rfl (op_load_m (cs' := [_, _, _, _, _]) (i := 0) rfl ta_157 rfl rfl rfl rfl ?_)
      refine AOps.st 29 rfl rfl rfl (op_callvb (xs := [.tmp 27, .tmp 28]) rfl rfl rfl (hg _ (List.mem_of_getElem? hx) ⟨z2c, ⟨z2tk, z2ts, z2tn, z2tl⟩⟩) (by first | exact Les.refl _ | (repeat' (first | exact Les.refl _ | refine Les.cons ?_ ?_ | exact Le.refl _ | exact Le.own _ _ _ | exact Le.nil _ | refine Le.agg ?_))) ?_); intro c29 h29
      refine AOps.st 30 rfl rfl rfl (op_notc rfl rfl ?_); intro c30 h30
      try replace h30 := nott h30 h29
      refine AOps.nil ?_
      refine go_code ?_
      rcases bool_split h30 with ⟨rfl, g30⟩ | ⟨rfl, g30⟩
      · refine c_cond_f rfl ?_
        refine c_skip ?_
        refine go_blk ?_
        refine go_code ?_
        refine c_region ?_
        refine AOps.st 31 rfl rfl rfl (op_add rfl rfl rfl (IntWalk.i64_in _ (by omega)) ?_)
        refine AOps.st 17 rfl rfl rfl (op_move rfl rfl ?_)
        refine AOps.nil ?_
        refine go_lp ?_
        exact ⟨i + 1, ⟨by omega, upto_map f hu hx hy (Classical.not_not.1 g30)⟩, by simp; omega, (by repeat' (first | exact SLe.nil _ | refine SLe.cons rfl ?_ ?_ | exact Le.refl _ | exact Le.own _ _ _ | exact Le.nil _)), (by first | exact MLe.none _ | exact MLe.refl _ | (repeat' (first | exact MLe.nil | exact MLe.refl _ | refine MLe.cons _ ?_ | refine MLe.drop _ ?_)))⟩
      · refine c_cond_t rfl ?_
        refine c_seq ?_
        refine c_region ?_
        refine AOps.st 6 rfl rfl rfl (op_assign rfl rfl ?_)
        refine AOps.nil ?_
        refine go_code ?_
        refine c_ret ?_
        exact out_tmp rfl rfl (Le.refl _) (by first | exact MLe.none _ | exact MLe.refl _ | (repeat' (first | exact MLe.nil | exact MLe.refl _ | refine MLe.cons _ ?_ | refine MLe.drop _ ?_))) ⟨⟨_, iff_f (map_ne f hx hy g30), rfl⟩, rfl⟩
  · refine c_cond_t rfl ?_
    refine c_seq ?_
    refine c_region ?_
    refine AOps.st 6 rfl rfl rfl (op_assign rfl rfl ?_)
    refine AOps.nil ?_
    refine go_code ?_
    refine c_ret ?_
    exact out_tmp rfl rfl (Le.refl _) (by first | exact MLe.none _ | exact MLe.refl _ | (repeat' (first | exact MLe.nil | exact MLe.refl _ | refine MLe.cons _ ?_ | refine MLe.drop _ ?_))) ⟨⟨_, iff_f (map_len_ne f (by omega)), rfl⟩, rfl⟩
set_option maxHeartbeats 4000000 in
set_option maxRecDepth 100000 in
theorem Eqs_Pr {β : Type} (f : Pr → β) (g : FuncId) (xs ys : List Pr) (hg : ∀ x ∈ xs, ∀ y, BCall Try.prog g [.agg x.cells, .agg y.cells] (f x = f y)) : BCall Try.prog 135 [.seq 5 (Pr.cellss xs), .seq 5 (Pr.cellss ys), .clo (.func g) [] []] (xs.map f = ys.map f) := by
  have H := EqF_Pr f g xs ys hg
  refine ACall.enter Try.func135 rfl (by kernel_rfl) rfl (Nat.le_of_ble_eq_true rfl) ?_
  refine c_start ?_
  refine c_seq ?_
  refine c_region ?_
  refine AOps.st 6 rfl rfl rfl (op_assign rfl rfl ?_)
  refine AOps.nil ?_
  refine go_code ?_
  refine c_seq ?_
  refine c_region ?_
  refine AOps.st 7 rfl rfl rfl (op_move rfl rfl ?_)
  refine AOps.st 8 rfl rfl rfl (op_move rfl rfl ?_)
  refine AOps.st 9 rfl rfl rfl (op_move rfl rfl ?_)
  refine AOps.st 10 rfl rfl rfl (op_callb (xs := [.tmp 7, .tmp 8, .tmp 9]) rfl rfl (H) (by first | exact Les.refl _ | (repeat' (first | exact Les.refl _ | refine Les.cons ?_ ?_ | exact Le.refl _ | exact Le.own _ _ _ | exact Le.nil _ | refine Le.agg ?_))) ?_); intro c10 h10
  refine AOps.st 6 rfl rfl rfl (op_assign rfl rfl ?_)
  refine AOps.nil ?_
  refine go_code ?_
  refine c_ret ?_
  exact out_tmp rfl rfl (Le.refl _) (by first | exact MLe.none _ | exact MLe.refl _ | (repeat' (first | exact MLe.nil | exact MLe.refl _ | refine MLe.cons _ ?_ | refine MLe.drop _ ?_))) ⟨⟨_, h10, rfl⟩, rfl⟩
set_option maxHeartbeats 4000000 in
set_option maxRecDepth 100000 in
theorem EqF_Cn {β : Type} (f : Cn → β) (g : FuncId) (xs ys : List Cn) (hg : ∀ x ∈ xs, ∀ y, BCall Try.prog g [.agg x.cells, .agg y.cells] (f x = f y)) : BCall Try.prog 139 [.seq 3 (Cn.cellss xs), .seq 3 (Cn.cellss ys), .clo (.func g) [] []] (xs.map f = ys.map f) := by
  have hlx := Cn.cellss_len xs
  have hly := Cn.cellss_len ys
  refine ACall.enter Try.func139 rfl (by kernel_rfl) rfl (Nat.le_of_ble_eq_true rfl) ?_
  refine c_start ?_
  refine c_lens (t := 0) rfl (.seq _ _) (fun hmax => ?_)
  refine c_seq ?_
  refine c_region ?_
  refine AOps.st 6 rfl rfl rfl (op_assign rfl rfl ?_)
  refine AOps.nil ?_
  refine go_code ?_
  refine c_seq ?_
  refine c_seq ?_
  refine c_region ?_
  refine AOps.st 10 rfl rfl rfl (op_move rfl rfl ?_)
  refine AOps.st 11 rfl rfl rfl (op_len rfl tu_128 rfl (.seq _ _) (fun n11 => ?_))
  refine AOps.st 12 rfl rfl rfl (op_move rfl rfl ?_)
  refine AOps.st 13 rfl rfl rfl (op_len rfl tu_128 rfl (.seq _ _) (fun n13 => ?_))
  refine AOps.st 14 rfl rfl rfl (op_neq rfl rfl rfl ?_); intro c14 h14
  refine AOps.nil ?_
  refine go_code ?_
  rcases bool_split h14 with ⟨rfl, g14⟩ | ⟨rfl, g14⟩
  · refine c_cond_f rfl ?_
    refine c_skip ?_
    refine go_code ?_
    refine c_seq ?_
    refine c_seq ?_
    refine c_region ?_
    refine AOps.st 15 rfl rfl rfl (op_move rfl rfl ?_)
    refine AOps.st 16 rfl rfl rfl (op_len rfl tu_128 rfl (.seq _ _) (fun n16 => ?_))
    refine AOps.st 17 rfl rfl rfl (op_move rfl rfl ?_)
    refine AOps.nil ?_
    refine go_code ?_
    refine c_block ?_
    refine c_loop (σ := Nat) (fun zz => match zz with | i => [(0, .seq 3 (Cn.cellss xs)), (1, .seq 3 (Cn.cellss ys)), (2, .clo (.func g) [] []), (15, .seq 3 (Cn.cellss xs)), (16, .val (.int .i64 (Cn.cellss xs).length)), (17, .val (.int .i64 i))]) (fun zz => match zz with | i => []) (fun zz => match zz with | i => i ≤ xs.length ∧ Upto (xs.map f) (ys.map f) i) (fun zz => match zz with | i => xs.length - i) (0) ?_ ?_ ?_ ?_
    · exact ⟨by omega, Upto.zero _ _⟩
    · exact (by repeat' (first | exact SLe.nil _ | refine SLe.cons rfl ?_ ?_ | exact Le.refl _ | exact Le.own _ _ _ | exact Le.nil _))
    · exact (by first | exact MLe.none _ | exact MLe.refl _ | (repeat' (first | exact MLe.nil | exact MLe.refl _ | refine MLe.cons _ ?_ | refine MLe.drop _ ?_)))
    rintro i hI
    try dsimp only [List.cons_append, List.nil_append] at hI ⊢
    obtain ⟨hi, hu⟩ := hI
    refine c_seq ?_
    refine c_region ?_
    refine AOps.st 18 rfl rfl rfl (op_lss rfl rfl rfl ?_); intro c18 h18
    refine AOps.nil ?_
    refine go_code ?_
    refine c_seq ?_
    rcases bool_split h18 with ⟨rfl, g18⟩ | ⟨rfl, g18⟩
    · refine c_cond_f rfl ?_
      refine c_exit ?_
      refine x_code ?_
      refine x_lp ?_
      refine x_here ?_
      refine go_code ?_
      refine c_seq ?_
      refine c_region ?_
      refine AOps.st 6 rfl rfl rfl (op_assign rfl rfl ?_)
      refine AOps.nil ?_
      refine go_code ?_
      refine c_ret ?_
      exact out_tmp rfl rfl (Le.refl _) (by first | exact MLe.none _ | exact MLe.refl _ | (repeat' (first | exact MLe.nil | exact MLe.refl _ | refine MLe.cons _ ?_ | refine MLe.drop _ ?_))) ⟨⟨_, iff_t (hu.eq (by simp; omega) (by simp; omega)), rfl⟩, rfl⟩
    · refine c_cond_t rfl ?_
      refine c_skip ?_
      refine go_code ?_
      refine c_seq ?_
      refine c_block ?_
      refine c_seq ?_
      obtain ⟨⟨z1s, z1ts, z1p⟩, hx⟩ := get_some (l := xs) (i := i) (by omega)
      obtain ⟨⟨z2s, z2ts, z2p⟩, hy⟩ := get_some (l := ys) (i := i) (by omega)
      have hcx := Cn.cellss_get hx
      have hcy := Cn.cellss_get hy
      refine c_region ?_
      refine AOps.st 19 rfl rfl rfl (op_move rfl rfl ?_)
      refine AOps.st 20 rfl rfl rfl (op_index rfl te_128 rfl (.seq _ _) rfl rfl (by assumption) ?_)
      first | (refine AOps.st 21 rfl rfl rfl (op_load_m (cs' := [_, _, _]) (i := 0) rfl ta_148 rfl rfl rfl rfl ?_)) | (refine AOps.st 21 rfl rfl rfl (op_load_m (cs' := [_, _, _]) (i := 1) rfl ta_148 rfl rfl rfl rfl ?_)) | (refine AOps.st 21 rfl rfl rfl (op_load_m (cs' := [_, _, _]) (i := 2) rfl ta_148 rfl rfl rfl rfl ?_)) | (refine AOps.st 21 rfl rfl rfl (op_load_m (cs' := [_, _, _]) (i := 3) rfl ta_148 rfl rfl rfl rfl ?_)) | (refine AOps.st 21 rfl rfl rfl (op_load_m (cs' := [_, _, _]) (i := 4) rfl ta_148 rfl rfl rfl rfl ?_)) | (refine AOps.st 21 rfl rfl rfl (op_load_m (cs' := [_, _, _]) (i := 5) rfl ta_148 rfl rfl rfl rfl ?_)) | (refine AOps.st 21 rfl rfl rfl (op_load_c (cs' := [_, _, _]) rfl ta_148 rfl rfl rfl ?_))
      refine AOps.st 8 rfl rfl rfl (op_alloce (cs' := [_, _, _]) rfl tz_148 rfl rfl ?_); intro b8
      refine AOps.st 7 rfl rfl rfl (op_assign rfl rfl ?_)
      refine AOps.st0 rfl rfl (op_store (cs' := [_, _, _]) (i := 0) rfl ts_148 rfl rfl rfl rfl rfl (Nat.le_of_ble_eq_true rfl) rfl ?_)
      refine AOps.nil ?_
      refine go_code ?_
      refine c_seq ?_
      refine c_region ?_
      refine AOps.st 22 rfl rfl rfl (op_move rfl rfl ?_)
      refine AOps.st 23 rfl rfl rfl (op_move rfl rfl ?_)
      refine AOps.st 24 rfl rfl rfl (op_index rfl te_128 rfl (.seq _ _) rfl rfl (by assumption) ?_)
      first | (refine AOps.st 25 rfl rfl rfl (op_load_m (cs' := [_, _, _]) (i := 0) rfl ta_148 rfl rfl rfl rfl ?_)) | (refine AOps.st 25 rfl rfl rfl (op_load_m (cs' := [_, _, _]) (i := 1) rfl ta_148 rfl rfl rfl rfl ?_)) | (refine AOps.st 25 rfl rfl rfl (op_load_m (cs' := [_, _, _]) (i := 2) rfl ta_148 rfl rfl rfl rfl ?_)) | (refine AOps.st 25 rfl rfl rfl (op_load_m (cs' := [_, _, _]) (i := 3) rfl ta_148 rfl rfl rfl rfl ?_)) | (refine AOps.st 25 rfl rfl rfl (op_load_m (cs' := [_, _, _]) (i := 4) rfl ta_148 rfl rfl rfl rfl ?_)) | (refine AOps.st 25 rfl rfl rfl (op_load_m (cs' := [_, _, _]) (i := 5) rfl ta_148 rfl rfl rfl rfl ?_)) | (refine AOps.st 25 rfl rfl rfl (op_load_c (cs' := [_, _, _]) rfl ta_148 rfl rfl rfl ?_))
      refine AOps.st 9 rfl rfl rfl (op_alloce (cs' := [_, _, _]) rfl tz_148 rfl rfl ?_); intro b9
      refine AOps.st0 rfl rfl (op_store (cs' := [_, _, _]) (i := 0) rfl ts_148 rfl rfl rfl rfl rfl (Nat.le_of_ble_eq_true rfl) rfl ?_)
      refine AOps.nil ?_
      refine go_code ?_
      refine c_seq ?_
      refine c_region ?_
      refine AOps.st 26 rfl rfl rfl (op_move rfl rfl ?_)
      first | (refine AOps.st 27 rfl rfl rfl (op_load_m (cs' := [_, _, _]) (i := 0) rfl ta_148 rfl rfl rfl rfl ?_)) | (refine AOps.st 27 rfl rfl rfl (op_load_m (cs' := [_, _, _]) (i := 1) rfl ta_148 rfl rfl rfl rfl ?_))
      refine AOps.st 28 rfl rfl rfl (op_load_m (cs' := [_, _, _]) (i := 0) rfl ta_148 rfl rfl rfl rfl ?_)
      refine AOps.st 29 rfl rfl rfl (op_callvb (xs := [.tmp 27, .tmp 28]) rfl rfl rfl (hg _ (List.mem_of_getElem? hx) ⟨z2s, z2ts, z2p⟩) (by first | exact Les.refl _ | (repeat' (first | exact Les.refl _ | refine Les.cons ?_ ?_ | exact Le.refl _ | exact Le.own _ _ _ | exact Le.nil _ | refine Le.agg ?_))) ?_); intro c29 h29
      refine AOps.st 30 rfl rfl rfl (op_notc rfl rfl ?_); intro c30 h30
      try replace h30 := nott h30 h29
      refine AOps.nil ?_
      refine go_code ?_
      rcases bool_split h30 with ⟨rfl, g30⟩ | ⟨rfl, g30⟩
      · refine c_cond_f rfl ?_
        refine c_skip ?_
        refine go_blk ?_
        refine go_code ?_
        refine c_region ?_
        refine AOps.st 31 rfl rfl rfl (op_add rfl rfl rfl (IntWalk.i64_in _ (by omega)) ?_)
        refine AOps.st 17 rfl rfl rfl (op_move rfl rfl ?_)
        refine AOps.nil ?_
        refine go_lp ?_
        exact ⟨i + 1, ⟨by omega, upto_map f hu hx hy (Classical.not_not.1 g30)⟩, by simp; omega, (by repeat' (first | exact SLe.nil _ | refine SLe.cons rfl ?_ ?_ | exact Le.refl _ | exact Le.own _ _ _ | exact Le.nil _)), (by first | exact MLe.none _ | exact MLe.refl _ | (repeat' (first | exact MLe.nil | exact MLe.refl _ | refine MLe.cons _ ?_ | refine MLe.drop _ ?_)))⟩
      · refine c_cond_t rfl ?_
        refine c_seq ?_
        refine c_region ?_
        refine AOps.st 6 rfl rfl rfl (op_assign rfl rfl ?_)
        refine AOps.nil ?_
        refine go_code ?_
        refine c_ret ?_
        exact out_tmp rfl rfl (Le.refl _) (by first | exact MLe.none _ | exact MLe.refl _ | (repeat' (first | exact MLe.nil | exact MLe.refl _ | refine MLe.cons _ ?_ | refine MLe.drop _ ?_))) ⟨⟨_, iff_f (map_ne f hx hy g30), rfl⟩, rfl⟩
  · refine c_cond_t rfl ?_
    refine c_seq ?_
    refine c_region ?_
    refine AOps.st 6 rfl rfl rfl (op_assign rfl rfl ?_)
    refine AOps.nil ?_
    refine go_code ?_
    refine c_ret ?_
    exact out_tmp rfl rfl (Le.refl _) (by first | exact MLe.none _ | exact MLe.refl _ | (repeat' (first | exact MLe.nil | exact MLe.refl _ | refine MLe.cons _ ?_ | refine MLe.drop _ ?_))) ⟨⟨_, iff_f (map_len_ne f (by omega)), rfl⟩, rfl⟩
set_option maxHeartbeats 4000000 in
set_option maxRecDepth 100000 in
theorem Eqs_Cn {β : Type} (f : Cn → β) (g : FuncId) (xs ys : List Cn) (hg : ∀ x ∈ xs, ∀ y, BCall Try.prog g [.agg x.cells, .agg y.cells] (f x = f y)) : BCall Try.prog 130 [.seq 3 (Cn.cellss xs), .seq 3 (Cn.cellss ys), .clo (.func g) [] []] (xs.map f = ys.map f) := by
  have H := EqF_Cn f g xs ys hg
  refine ACall.enter Try.func130 rfl (by kernel_rfl) rfl (Nat.le_of_ble_eq_true rfl) ?_
  refine c_start ?_
  refine c_seq ?_
  refine c_region ?_
  refine AOps.st 6 rfl rfl rfl (op_assign rfl rfl ?_)
  refine AOps.nil ?_
  refine go_code ?_
  refine c_seq ?_
  refine c_region ?_
  refine AOps.st 7 rfl rfl rfl (op_move rfl rfl ?_)
  refine AOps.st 8 rfl rfl rfl (op_move rfl rfl ?_)
  refine AOps.st 9 rfl rfl rfl (op_move rfl rfl ?_)
  refine AOps.st 10 rfl rfl rfl (op_callb (xs := [.tmp 7, .tmp 8, .tmp 9]) rfl rfl (H) (by first | exact Les.refl _ | (repeat' (first | exact Les.refl _ | refine Les.cons ?_ ?_ | exact Le.refl _ | exact Le.own _ _ _ | exact Le.nil _ | refine Le.agg ?_))) ?_); intro c10 h10
  refine AOps.st 6 rfl rfl rfl (op_assign rfl rfl ?_)
  refine AOps.nil ?_
  refine go_code ?_
  refine c_ret ?_
  exact out_tmp rfl rfl (Le.refl _) (by first | exact MLe.none _ | exact MLe.refl _ | (repeat' (first | exact MLe.nil | exact MLe.refl _ | refine MLe.cons _ ?_ | refine MLe.drop _ ?_))) ⟨⟨_, h10, rfl⟩, rfl⟩
set_option maxHeartbeats 4000000 in
set_option maxRecDepth 100000 in
theorem EqF_Da {β : Type} (f : Da → β) (g : FuncId) (xs ys : List Da) (hg : ∀ x ∈ xs, ∀ y, BCall Try.prog g [.agg x.cells, .agg y.cells] (f x = f y)) : BCall Try.prog 127 [.seq 5 (Da.cellss xs), .seq 5 (Da.cellss ys), .clo (.func g) [] []] (xs.map f = ys.map f) := by
  have hlx := Da.cellss_len xs
  have hly := Da.cellss_len ys
  refine ACall.enter Try.func127 rfl (by kernel_rfl) rfl (Nat.le_of_ble_eq_true rfl) ?_
  refine c_start ?_
  refine c_lens (t := 0) rfl (.seq _ _) (fun hmax => ?_)
  refine c_seq ?_
  refine c_region ?_
  refine AOps.st 6 rfl rfl rfl (op_assign rfl rfl ?_)
  refine AOps.nil ?_
  refine go_code ?_
  refine c_seq ?_
  refine c_seq ?_
  refine c_region ?_
  refine AOps.st 10 rfl rfl rfl (op_move rfl rfl ?_)
  refine AOps.st 11 rfl rfl rfl (op_len rfl tu_77 rfl (.seq _ _) (fun n11 => ?_))
  refine AOps.st 12 rfl rfl rfl (op_move rfl rfl ?_)
  refine AOps.st 13 rfl rfl rfl (op_len rfl tu_77 rfl (.seq _ _) (fun n13 => ?_))
  refine AOps.st 14 rfl rfl rfl (op_neq rfl rfl rfl ?_); intro c14 h14
  refine AOps.nil ?_
  refine go_code ?_
  rcases bool_split h14 with ⟨rfl, g14⟩ | ⟨rfl, g14⟩
  · refine c_cond_f rfl ?_
    refine c_skip ?_
    refine go_code ?_
    refine c_seq ?_
    refine c_seq ?_
    refine c_region ?_
    refine AOps.st 15 rfl rfl rfl (op_move rfl rfl ?_)
    refine AOps.st 16 rfl rfl rfl (op_len rfl tu_77 rfl (.seq _ _) (fun n16 => ?_))
    refine AOps.st 17 rfl rfl rfl (op_move rfl rfl ?_)
    refine AOps.nil ?_
    refine go_code ?_
    refine c_block ?_
    refine c_loop (σ := Nat) (fun zz => match zz with | i => [(0, .seq 5 (Da.cellss xs)), (1, .seq 5 (Da.cellss ys)), (2, .clo (.func g) [] []), (15, .seq 5 (Da.cellss xs)), (16, .val (.int .i64 (Da.cellss xs).length)), (17, .val (.int .i64 i))]) (fun zz => match zz with | i => []) (fun zz => match zz with | i => i ≤ xs.length ∧ Upto (xs.map f) (ys.map f) i) (fun zz => match zz with | i => xs.length - i) (0) ?_ ?_ ?_ ?_
    · exact ⟨by omega, Upto.zero _ _⟩
    · exact (by repeat' (first | exact SLe.nil _ | refine SLe.cons rfl ?_ ?_ | exact Le.refl _ | exact Le.own _ _ _ | exact Le.nil _))
    · exact (by first | exact MLe.none _ | exact MLe.refl _ | (repeat' (first | exact MLe.nil | exact MLe.refl _ | refine MLe.cons _ ?_ | refine MLe.drop _ ?_)))
    rintro i hI
    try dsimp only [List.cons_append, List.nil_append] at hI ⊢
    obtain ⟨hi, hu⟩ := hI
    refine c_seq ?_
    refine c_region ?_
    refine AOps.st 18 rfl rfl rfl (op_lss rfl rfl rfl ?_); intro c18 h18
    refine AOps.nil ?_
    refine go_code ?_
    refine c_seq ?_
    rcases bool_split h18 with ⟨rfl, g18⟩ | ⟨rfl, g18⟩
    · refine c_cond_f rfl ?_
      refine c_exit ?_
      refine x_code ?_
      refine x_lp ?_
      refine x_here ?_
      refine go_code ?_
      refine c_seq ?_
      refine c_region ?_
      refine AOps.st 6 rfl rfl rfl (op_assign rfl rfl ?_)
      refine AOps.nil ?_
      refine go_code ?_
      refine c_ret ?_
      exact out_tmp rfl rfl (Le.refl _) (by first | exact MLe.none _ | exact MLe.refl _ | (repeat' (first | exact MLe.nil | exact MLe.refl _ | refine MLe.cons _ ?_ | refine MLe.drop _ ?_))) ⟨⟨_, iff_t (hu.eq (by simp; omega) (by simp; omega)), rfl⟩, rfl⟩
    · refine c_cond_t rfl ?_
      refine c_skip ?_
      refine go_code ?_
      refine c_seq ?_
      refine c_block ?_
      refine c_seq ?_
      obtain ⟨⟨z1s, z1ps, z1cs, z1dv, z1p⟩, hx⟩ := get_some (l := xs) (i := i) (by omega)
      obtain ⟨⟨z2s, z2ps, z2cs, z2dv, z2p⟩, hy⟩ := get_some (l := ys) (i := i) (by omega)
      have hcx := Da.cellss_get hx
      have hcy := Da.cellss_get hy
      refine c_region ?_
      refine AOps.st 19 rfl rfl rfl (op_move rfl rfl ?_)
      refine AOps.st 20 rfl rfl rfl (op_index rfl te_77 rfl (.seq _ _) rfl rfl (by assumption) ?_)
      first | (refine AOps.st 21 rfl rfl rfl (op_load_m (cs' := [_, _, _, _, _]) (i := 0) rfl ta_130 rfl rfl rfl rfl ?_)) | (refine AOps.st 21 rfl rfl rfl (op_load_m (cs' := [_, _, _, _, _]) (i := 1) rfl ta_130 rfl rfl rfl rfl ?_)) | (refine AOps.st 21 rfl rfl rfl (op_load_m (cs' := [_, _, _, _, _]) (i := 2) rfl ta_130 rfl rfl rfl rfl ?_)) | (refine AOps.st 21 rfl rfl rfl (op_load_m (cs' := [_, _, _, _, _]) (i := 3) rfl ta_130 rfl rfl rfl rfl ?_)) | (refine AOps.st 21 rfl rfl rfl (op_load_m (cs' := [_, _, _, _, _]) (i := 4) rfl ta_130 rfl rfl rfl rfl ?_)) | (refine AOps.st 21 rfl rfl rfl (op_load_m (cs' := [_, _, _, _, _]) (i := 5) rfl ta_130 rfl rfl rfl rfl ?_)) | (refine AOps.st 21 rfl rfl rfl (op_load_c (cs' := [_, _, _, _, _]) rfl ta_130 rfl rfl rfl ?_))
      refine AOps.st 8 rfl rfl rfl (op_alloce (cs' := [_, _, _, _, _]) rfl tz_130 rfl rfl ?_); intro b8
      refine AOps.st 7 rfl rfl rfl (op_assign rfl rfl ?_)
      refine AOps.st0 rfl rfl (op_store (cs' := [_, _, _, _, _]) (i := 0) rfl ts_130 rfl rfl rfl rfl rfl (Nat.le_of_ble_eq_true rfl) rfl ?_)
      refine AOps.nil ?_
      refine go_code ?_
      refine c_seq ?_
      refine c_region ?_
      refine AOps.st 22 rfl rfl rfl (op_move rfl rfl ?_)
      refine AOps.st 23 rfl rfl rfl (op_move rfl rfl ?_)
      refine AOps.st 24 rfl rfl rfl (op_index rfl te_77 rfl (.seq _ _) rfl rfl (by assumption) ?_)
      first | (refine AOps.st 25 rfl rfl rfl (op_load_m (cs' := [_, _, _, _, _]) (i := 0) rfl ta_130 rfl rfl rfl rfl ?_)) | (refine AOps.st 25 rfl rfl rfl (op_load_m (cs' := [_, _, _, _, _]) (i := 1) rfl ta_130 rfl rfl rfl rfl ?_)) | (refine AOps.st 25 rfl rfl rfl (op_load_m (cs' := [_, _, _, _, _]) (i := 2) rfl ta_130 rfl rfl rfl rfl ?_)) | (refine AOps.st 25 rfl rfl rfl (op_load_m (cs' := [_, _, _, _, _]) (i := 3) rfl ta_130 rfl rfl rfl rfl ?_)) | (refine AOps.st 25 rfl rfl rfl (op_load_m (cs' := [_, _, _, _, _]) (i := 4) rfl ta_130 rfl rfl rfl rfl ?_)) | (refine AOps.st 25 rfl rfl rfl (op_load_m (cs' := [_, _, _, _, _]) (i := 5) rfl ta_130 rfl rfl rfl rfl ?_)) | (refine AOps.st 25 rfl rfl rfl (op_load_c (cs' := [_, _, _, _, _]) rfl ta_130 rfl rfl rfl ?_))
      refine AOps.st 9 rfl rfl rfl (op_alloce (cs' := [_, _, _, _, _]) rfl tz_130 rfl rfl ?_); intro b9
      refine AOps.st0 rfl rfl (op_store (cs' := [_, _, _, _, _]) (i := 0) rfl ts_130 rfl rfl rfl rfl rfl (Nat.le_of_ble_eq_true rfl) rfl ?_)
      refine AOps.nil ?_
      refine go_code ?_
      refine c_seq ?_
      refine c_region ?_
      refine AOps.st 26 rfl rfl rfl (op_move rfl rfl ?_)
      first | (refine AOps.st 27 rfl rfl rfl (op_load_m (cs' := [_, _, _, _, _]) (i := 0) rfl ta_130 rfl rfl rfl rfl ?_)) | (refine AOps.st 27 rfl rfl rfl (op_load_m (cs' := [_, _, _, _, _]) (i := 1) rfl ta_130 rfl rfl rfl rfl ?_))
      refine AOps.st 28 rfl rfl rfl (op_load_m (cs' := [_, _, _, _, _]) (i := 0) rfl ta_130 rfl rfl rfl rfl ?_)
      refine AOps.st 29 rfl rfl rfl (op_callvb (xs := [.tmp 27, .tmp 28]) rfl rfl rfl (hg _ (List.mem_of_getElem? hx) ⟨z2s, z2ps, z2cs, z2dv, z2p⟩) (by first | exact Les.refl _ | (repeat' (first | exact Les.refl _ | refine Les.cons ?_ ?_ | exact Le.refl _ | exact Le.own _ _ _ | exact Le.nil _ | refine Le.agg ?_))) ?_); intro c29 h29
      refine AOps.st 30 rfl rfl rfl (op_notc rfl rfl ?_); intro c30 h30
      try replace h30 := nott h30 h29
      refine AOps.nil ?_
      refine go_code ?_
      rcases bool_split h30 with ⟨rfl, g30⟩ | ⟨rfl, g30⟩
      · refine c_cond_f rfl ?_
        refine c_skip ?_
        refine go_blk ?_
        refine go_code ?_
        refine c_region ?_
        refine AOps.st 31 rfl rfl rfl (op_add rfl rfl rfl (IntWalk.i64_in _ (by omega)) ?_)
        refine AOps.st 17 rfl rfl rfl (op_move rfl rfl ?_)
        refine AOps.nil ?_
        refine go_lp ?_
        exact ⟨i + 1, ⟨by omega, upto_map f hu hx hy (Classical.not_not.1 g30)⟩, by simp; omega, (by repeat' (first | exact SLe.nil _ | refine SLe.cons rfl ?_ ?_ | exact Le.refl _ | exact Le.own _ _ _ | exact Le.nil _)), (by first | exact MLe.none _ | exact MLe.refl _ | (repeat' (first | exact MLe.nil | exact MLe.refl _ | refine MLe.cons _ ?_ | refine MLe.drop _ ?_)))⟩
      · refine c_cond_t rfl ?_
        refine c_seq ?_
        refine c_region ?_
        refine AOps.st 6 rfl rfl rfl (op_assign rfl rfl ?_)
        refine AOps.nil ?_
        refine go_code ?_
        refine c_ret ?_
        exact out_tmp rfl rfl (Le.refl _) (by first | exact MLe.none _ | exact MLe.refl _ | (repeat' (first | exact MLe.nil | exact MLe.refl _ | refine MLe.cons _ ?_ | refine MLe.drop _ ?_))) ⟨⟨_, iff_f (map_ne f hx hy g30), rfl⟩, rfl⟩
  · refine c_cond_t rfl ?_
    refine c_seq ?_
    refine c_region ?_
    refine AOps.st 6 rfl rfl rfl (op_assign rfl rfl ?_)
    refine AOps.nil ?_
    refine go_code ?_
    refine c_ret ?_
    exact out_tmp rfl rfl (Le.refl _) (by first | exact MLe.none _ | exact MLe.refl _ | (repeat' (first | exact MLe.nil | exact MLe.refl _ | refine MLe.cons _ ?_ | refine MLe.drop _ ?_))) ⟨⟨_, iff_f (map_len_ne f (by omega)), rfl⟩, rfl⟩
set_option maxHeartbeats 4000000 in
set_option maxRecDepth 100000 in
theorem Eqs_Da {β : Type} (f : Da → β) (g : FuncId) (xs ys : List Da) (hg : ∀ x ∈ xs, ∀ y, BCall Try.prog g [.agg x.cells, .agg y.cells] (f x = f y)) : BCall Try.prog 99 [.seq 5 (Da.cellss xs), .seq 5 (Da.cellss ys), .clo (.func g) [] []] (xs.map f = ys.map f) := by
  have H := EqF_Da f g xs ys hg
  refine ACall.enter Try.func99 rfl (by kernel_rfl) rfl (Nat.le_of_ble_eq_true rfl) ?_
  refine c_start ?_
  refine c_seq ?_
  refine c_region ?_
  refine AOps.st 6 rfl rfl rfl (op_assign rfl rfl ?_)
  refine AOps.nil ?_
  refine go_code ?_
  refine c_seq ?_
  refine c_region ?_
  refine AOps.st 7 rfl rfl rfl (op_move rfl rfl ?_)
  refine AOps.st 8 rfl rfl rfl (op_move rfl rfl ?_)
  refine AOps.st 9 rfl rfl rfl (op_move rfl rfl ?_)
  refine AOps.st 10 rfl rfl rfl (op_callb (xs := [.tmp 7, .tmp 8, .tmp 9]) rfl rfl (H) (by first | exact Les.refl _ | (repeat' (first | exact Les.refl _ | refine Les.cons ?_ ?_ | exact Le.refl _ | exact Le.own _ _ _ | exact Le.nil _ | refine Le.agg ?_))) ?_); intro c10 h10
  refine AOps.st 6 rfl rfl rfl (op_assign rfl rfl ?_)
  refine AOps.nil ?_
  refine go_code ?_
  refine c_ret ?_
  exact out_tmp rfl rfl (Le.refl _) (by first | exact MLe.none _ | exact MLe.refl _ | (repeat' (first | exact MLe.nil | exact MLe.refl _ | refine MLe.cons _ ?_ | refine MLe.drop _ ?_))) ⟨⟨_, h10, rfl⟩, rfl⟩
set_option maxHeartbeats 4000000 in
set_option maxRecDepth 100000 in
theorem EqF_Me {β : Type} (f : Me → β) (g : FuncId) (xs ys : List Me) (hg : ∀ x ∈ xs, ∀ y, BCall Try.prog g [.agg x.cells, .agg y.cells] (f x = f y)) : BCall Try.prog 140 [.seq 6 (Me.cellss xs), .seq 6 (Me.cellss ys), .clo (.func g) [] []] (xs.map f = ys.map f) := by
  have hlx := Me.cellss_len xs
  have hly := Me.cellss_len ys
  refine ACall.enter Try.func140 rfl (by kernel_rfl) rfl (Nat.le_of_ble_eq_true rfl) ?_
  refine c_start ?_
  refine c_lens (t := 0) rfl (.seq _ _) (fun hmax => ?_)
  refine c_seq ?_
  refine c_region ?_
  refine AOps.st 6 rfl rfl rfl (op_assign rfl rfl ?_)
  refine AOps.nil ?_
  refine go_code ?_
  refine c_seq ?_
  refine c_seq ?_
  refine c_region ?_
  refine AOps.st 10 rfl rfl rfl (op_move rfl rfl ?_)
  refine AOps.st 11 rfl rfl rfl (op_len rfl tu_122 rfl (.seq _ _) (fun n11 => ?_))
  refine AOps.st 12 rfl rfl rfl (op_move rfl rfl ?_)
  refine AOps.st 13 rfl rfl rfl (op_len rfl tu_122 rfl (.seq _ _) (fun n13 => ?_))
  refine AOps.st 14 rfl rfl rfl (op_neq rfl rfl rfl ?_); intro c14 h14
  refine AOps.nil ?_
  refine go_code ?_
  rcases bool_split h14 with ⟨rfl, g14⟩ | ⟨rfl, g14⟩
  · refine c_cond_f rfl ?_
    refine c_skip ?_
    refine go_code ?_
    refine c_seq ?_
    refine c_seq ?_
    refine c_region ?_
    refine AOps.st 15 rfl rfl rfl (op_move rfl rfl ?_)
    refine AOps.st 16 rfl rfl rfl (op_len rfl tu_122 rfl (.seq _ _) (fun n16 => ?_))
    refine AOps.st 17 rfl rfl rfl (op_move rfl rfl ?_)
    refine AOps.nil ?_
    refine go_code ?_
    refine c_block ?_
    refine c_loop (σ := Nat) (fun zz => match zz with | i => [(0, .seq 6 (Me.cellss xs)), (1, .seq 6 (Me.cellss ys)), (2, .clo (.func g) [] []), (15, .seq 6 (Me.cellss xs)), (16, .val (.int .i64 (Me.cellss xs).length)), (17, .val (.int .i64 i))]) (fun zz => match zz with | i => []) (fun zz => match zz with | i => i ≤ xs.length ∧ Upto (xs.map f) (ys.map f) i) (fun zz => match zz with | i => xs.length - i) (0) ?_ ?_ ?_ ?_
    · exact ⟨by omega, Upto.zero _ _⟩
    · exact (by repeat' (first | exact SLe.nil _ | refine SLe.cons rfl ?_ ?_ | exact Le.refl _ | exact Le.own _ _ _ | exact Le.nil _))
    · exact (by first | exact MLe.none _ | exact MLe.refl _ | (repeat' (first | exact MLe.nil | exact MLe.refl _ | refine MLe.cons _ ?_ | refine MLe.drop _ ?_)))
    rintro i hI
    try dsimp only [List.cons_append, List.nil_append] at hI ⊢
    obtain ⟨hi, hu⟩ := hI
    refine c_seq ?_
    refine c_region ?_
    refine AOps.st 18 rfl rfl rfl (op_lss rfl rfl rfl ?_); intro c18 h18
    refine AOps.nil ?_
    refine go_code ?_
    refine c_seq ?_
    rcases bool_split h18 with ⟨rfl, g18⟩ | ⟨rfl, g18⟩
    · refine c_cond_f rfl ?_
      refine c_exit ?_
      refine x_code ?_
      refine x_lp ?_
      refine x_here ?_
      refine go_code ?_
      refine c_seq ?_
      refine c_region ?_
      refine AOps.st 6 rfl rfl rfl (op_assign rfl rfl ?_)
      refine AOps.nil ?_
      refine go_code ?_
      refine c_ret ?_
      exact out_tmp rfl rfl (Le.refl _) (by first | exact MLe.none _ | exact MLe.refl _ | (repeat' (first | exact MLe.nil | exact MLe.refl _ | refine MLe.cons _ ?_ | refine MLe.drop _ ?_))) ⟨⟨_, iff_t (hu.eq (by simp; omega) (by simp; omega)), rfl⟩, rfl⟩
    · refine c_cond_t rfl ?_
      refine c_skip ?_
      refine go_code ?_
      refine c_seq ?_
      refine c_block ?_
      refine c_seq ?_
      obtain ⟨⟨z1s, ⟨z1tk, z1ts, z1tn, z1tl⟩, z1p⟩, hx⟩ := get_some (l := xs) (i := i) (by omega)
      obtain ⟨⟨z2s, ⟨z2tk, z2ts, z2tn, z2tl⟩, z2p⟩, hy⟩ := get_some (l := ys) (i := i) (by omega)
      have hcx := Me.cellss_get hx
      have hcy := Me.cellss_get hy
      refine c_region ?_
      refine AOps.st 19 rfl rfl rfl (op_move rfl rfl ?_)
      refine AOps.st 20 rfl rfl rfl (op_index rfl te_122 rfl (.seq _ _) rfl rfl (by assumption) ?_)
      first | (refine AOps.st 21 rfl rfl rfl (op_load_m (cs' := [_, _, _, _, _, _]) (i := 0) rfl ta_152 rfl rfl rfl rfl ?_)) | (refine AOps.st 21 rfl rfl rfl (op_load_m (cs' := [_, _, _, _, _, _]) (i := 1) rfl ta_152 rfl rfl rfl rfl ?_)) | (refine AOps.st 21 rfl rfl rfl (op_load_m (cs' := [_, _, _, _, _, _]) (i := 2) rfl ta_152 rfl rfl rfl rfl ?_)) | (refine AOps.st 21 rfl rfl rfl (op_load_m (cs' := [_, _, _, _, _, _]) (i := 3) rfl ta_152 rfl rfl rfl rfl ?_)) | (refine AOps.st 21 rfl rfl rfl (op_load_m (cs' := [_, _, _, _, _, _]) (i := 4) rfl ta_152 rfl rfl rfl rfl ?_)) | (refine AOps.st 21 rfl rfl rfl (op_load_m (cs' := [_, _, _, _, _, _]) (i := 5) rfl ta_152 rfl rfl rfl rfl ?_)) | (refine AOps.st 21 rfl rfl rfl (op_load_c (cs' := [_, _, _, _, _, _]) rfl ta_152 rfl rfl rfl ?_))
      refine AOps.st 8 rfl rfl rfl (op_alloce (cs' := [_, _, _, _, _, _]) rfl tz_152 rfl rfl ?_); intro b8
      refine AOps.st 7 rfl rfl rfl (op_assign rfl rfl ?_)
      refine AOps.st0 rfl rfl (op_store (cs' := [_, _, _, _, _, _]) (i := 0) rfl ts_152 rfl rfl rfl rfl rfl (Nat.le_of_ble_eq_true rfl) rfl ?_)
      refine AOps.nil ?_
      refine go_code ?_
      refine c_seq ?_
      refine c_region ?_
      refine AOps.st 22 rfl rfl rfl (op_move rfl rfl ?_)
      refine AOps.st 23 rfl rfl rfl (op_move rfl rfl ?_)
      refine AOps.st 24 rfl rfl rfl (op_index rfl te_122 rfl (.seq _ _) rfl rfl (by assumption) ?_)
      first | (refine AOps.st 25 rfl rfl rfl (op_load_m (cs' := [_, _, _, _, _, _]) (i := 0) rfl ta_152 rfl rfl rfl rfl ?_)) | (refine AOps.st 25 rfl rfl rfl (op_load_m (cs' := [_, _, _, _, _, _]) (i := 1) rfl ta_152 rfl rfl rfl rfl ?_)) | (refine AOps.st 25 rfl rfl rfl (op_load_m (cs' := [_, _, _, _, _, _]) (i := 2) rfl ta_152 rfl rfl rfl rfl ?_)) | (refine AOps.st 25 rfl rfl rfl (op_load_m (cs' := [_, _, _, _, _, _]) (i := 3) rfl ta_152 rfl rfl rfl rfl ?_)) | (refine AOps.st 25 rfl rfl rfl (op_load_m (cs' := [_, _, _, _, _, _]) (i := 4) rfl ta_152 rfl rfl rfl rfl ?_)) | (refine AOps.st 25 rfl rfl rfl (op_load_m (cs' := [_, _, _, _, _, _]) (i := 5) rfl ta_152 rfl rfl rfl rfl ?_)) | (refine AOps.st 25 rfl rfl rfl (op_load_c (cs' := [_, _, _, _, _, _]) rfl ta_152 rfl rfl rfl ?_))
      refine AOps.st 9 rfl rfl rfl (op_alloce (cs' := [_, _, _, _, _, _]) rfl tz_152 rfl rfl ?_); intro b9
      refine AOps.st0 rfl rfl (op_store (cs' := [_, _, _, _, _, _]) (i := 0) rfl ts_152 rfl rfl rfl rfl rfl (Nat.le_of_ble_eq_true rfl) rfl ?_)
      refine AOps.nil ?_
      refine go_code ?_
      refine c_seq ?_
      refine c_region ?_
      refine AOps.st 26 rfl rfl rfl (op_move rfl rfl ?_)
      first | (refine AOps.st 27 rfl rfl rfl (op_load_m (cs' := [_, _, _, _, _, _]) (i := 0) rfl ta_152 rfl rfl rfl rfl ?_)) | (refine AOps.st 27 rfl rfl rfl (op_load_m (cs' := [_, _, _, _, _, _]) (i := 1) rfl ta_152 rfl rfl rfl rfl ?_))
      refine AOps.st 28 rfl rfl rfl (op_load_m (cs' := [_, _, _, _, _, _]) (i := 0) rfl ta_152 rfl rfl rfl rfl ?_)
      refine AOps.st 29 rfl rfl rfl (op_callvb (xs := [.tmp 27, .tmp 28]) rfl rfl rfl (hg _ (List.mem_of_getElem? hx) ⟨z2s, ⟨z2tk, z2ts, z2tn, z2tl⟩, z2p⟩) (by first | exact Les.refl _ | (repeat' (first | exact Les.refl _ | refine Les.cons ?_ ?_ | exact Le.refl _ | exact Le.own _ _ _ | exact Le.nil _ | refine Le.agg ?_))) ?_); intro c29 h29
      refine AOps.st 30 rfl rfl rfl (op_notc rfl rfl ?_); intro c30 h30
      try replace h30 := nott h30 h29
      refine AOps.nil ?_
      refine go_code ?_
      rcases bool_split h30 with ⟨rfl, g30⟩ | ⟨rfl, g30⟩
      · refine c_cond_f rfl ?_
        refine c_skip ?_
        refine go_blk ?_
        refine go_code ?_
        refine c_region ?_
        refine AOps.st 31 rfl rfl rfl (op_add rfl rfl rfl (IntWalk.i64_in _ (by omega)) ?_)
        refine AOps.st 17 rfl rfl rfl (op_move rfl rfl ?_)
        refine AOps.nil ?_
        refine go_lp ?_
        exact ⟨i + 1, ⟨by omega, upto_map f hu hx hy (Classical.not_not.1 g30)⟩, by simp; omega, (by repeat' (first | exact SLe.nil _ | refine SLe.cons rfl ?_ ?_ | exact Le.refl _ | exact Le.own _ _ _ | exact Le.nil _)), (by first | exact MLe.none _ | exact MLe.refl _ | (repeat' (first | exact MLe.nil | exact MLe.refl _ | refine MLe.cons _ ?_ | refine MLe.drop _ ?_)))⟩
      · refine c_cond_t rfl ?_
        refine c_seq ?_
        refine c_region ?_
        refine AOps.st 6 rfl rfl rfl (op_assign rfl rfl ?_)
        refine AOps.nil ?_
        refine go_code ?_
        refine c_ret ?_
        exact out_tmp rfl rfl (Le.refl _) (by first | exact MLe.none _ | exact MLe.refl _ | (repeat' (first | exact MLe.nil | exact MLe.refl _ | refine MLe.cons _ ?_ | refine MLe.drop _ ?_))) ⟨⟨_, iff_f (map_ne f hx hy g30), rfl⟩, rfl⟩
  · refine c_cond_t rfl ?_
    refine c_seq ?_
    refine c_region ?_
    refine AOps.st 6 rfl rfl rfl (op_assign rfl rfl ?_)
    refine AOps.nil ?_
    refine go_code ?_
    refine c_ret ?_
    exact out_tmp rfl rfl (Le.refl _) (by first | exact MLe.none _ | exact MLe.refl _ | (repeat' (first | exact MLe.nil | exact MLe.refl _ | refine MLe.cons _ ?_ | refine MLe.drop _ ?_))) ⟨⟨_, iff_f (map_len_ne f (by omega)), rfl⟩, rfl⟩
set_option maxHeartbeats 4000000 in
set_option maxRecDepth 100000 in
theorem Eqs_Me {β : Type} (f : Me → β) (g : FuncId) (xs ys : List Me) (hg : ∀ x ∈ xs, ∀ y, BCall Try.prog g [.agg x.cells, .agg y.cells] (f x = f y)) : BCall Try.prog 133 [.seq 6 (Me.cellss xs), .seq 6 (Me.cellss ys), .clo (.func g) [] []] (xs.map f = ys.map f) := by
  have H := EqF_Me f g xs ys hg
  refine ACall.enter Try.func133 rfl (by kernel_rfl) rfl (Nat.le_of_ble_eq_true rfl) ?_
  refine c_start ?_
  refine c_seq ?_
  refine c_region ?_
  refine AOps.st 6 rfl rfl rfl (op_assign rfl rfl ?_)
  refine AOps.nil ?_
  refine go_code ?_
  refine c_seq ?_
  refine c_region ?_
  refine AOps.st 7 rfl rfl rfl (op_move rfl rfl ?_)
  refine AOps.st 8 rfl rfl rfl (op_move rfl rfl ?_)
  refine AOps.st 9 rfl rfl rfl (op_move rfl rfl ?_)
  refine AOps.st 10 rfl rfl rfl (op_callb (xs := [.tmp 7, .tmp 8, .tmp 9]) rfl rfl (H) (by first | exact Les.refl _ | (repeat' (first | exact Les.refl _ | refine Les.cons ?_ ?_ | exact Le.refl _ | exact Le.own _ _ _ | exact Le.nil _ | refine Le.agg ?_))) ?_); intro c10 h10
  refine AOps.st 6 rfl rfl rfl (op_assign rfl rfl ?_)
  refine AOps.nil ?_
  refine go_code ?_
  refine c_ret ?_
  exact out_tmp rfl rfl (Le.refl _) (by first | exact MLe.none _ | exact MLe.refl _ | (repeat' (first | exact MLe.nil | exact MLe.refl _ | refine MLe.cons _ ?_ | refine MLe.drop _ ?_))) ⟨⟨_, h10, rfl⟩, rfl⟩
set_option maxHeartbeats 4000000 in
set_option maxRecDepth 100000 in
theorem EqF_Cl {β : Type} (f : Cl → β) (g : FuncId) (xs ys : List Cl) (hg : ∀ x ∈ xs, ∀ y, BCall Try.prog g [.agg x.cells, .agg y.cells] (f x = f y)) : BCall Try.prog 131 [.seq 6 (Cl.cellss xs), .seq 6 (Cl.cellss ys), .clo (.func g) [] []] (xs.map f = ys.map f) := by
  have hlx := Cl.cellss_len xs
  have hly := Cl.cellss_len ys
  refine ACall.enter Try.func131 rfl (by kernel_rfl) rfl (Nat.le_of_ble_eq_true rfl) ?_
  refine c_start ?_
  refine c_lens (t := 0) rfl (.seq _ _) (fun hmax => ?_)
  refine c_seq ?_
  refine c_region ?_
  refine AOps.st 6 rfl rfl rfl (op_assign rfl rfl ?_)
  refine AOps.nil ?_
  refine go_code ?_
  refine c_seq ?_
  refine c_seq ?_
  refine c_region ?_
  refine AOps.st 10 rfl rfl rfl (op_move rfl rfl ?_)
  refine AOps.st 11 rfl rfl rfl (op_len rfl tu_78 rfl (.seq _ _) (fun n11 => ?_))
  refine AOps.st 12 rfl rfl rfl (op_move rfl rfl ?_)
  refine AOps.st 13 rfl rfl rfl (op_len rfl tu_78 rfl (.seq _ _) (fun n13 => ?_))
  refine AOps.st 14 rfl rfl rfl (op_neq rfl rfl rfl ?_); intro c14 h14
  refine AOps.nil ?_
  refine go_code ?_
  rcases bool_split h14 with ⟨rfl, g14⟩ | ⟨rfl, g14⟩
  · refine c_cond_f rfl ?_
    refine c_skip ?_
    refine go_code ?_
    refine c_seq ?_
    refine c_seq ?_
    refine c_region ?_
    refine AOps.st 15 rfl rfl rfl (op_move rfl rfl ?_)
    refine AOps.st 16 rfl rfl rfl (op_len rfl tu_78 rfl (.seq _ _) (fun n16 => ?_))
    refine AOps.st 17 rfl rfl rfl (op_move rfl rfl ?_)
    refine AOps.nil ?_
    refine go_code ?_
    refine c_block ?_
    refine c_loop (σ := Nat) (fun zz => match zz with | i => [(0, .seq 6 (Cl.cellss xs)), (1, .seq 6 (Cl.cellss ys)), (2, .clo (.func g) [] []), (15, .seq 6 (Cl.cellss xs)), (16, .val (.int .i64 (Cl.cellss xs).length)), (17, .val (.int .i64 i))]) (fun zz => match zz with | i => []) (fun zz => match zz with | i => i ≤ xs.length ∧ Upto (xs.map f) (ys.map f) i) (fun zz => match zz with | i => xs.length - i) (0) ?_ ?_ ?_ ?_
    · exact ⟨by omega, Upto.zero _ _⟩
    · exact (by repeat' (first | exact SLe.nil _ | refine SLe.cons rfl ?_ ?_ | exact Le.refl _ | exact Le.own _ _ _ | exact Le.nil _))
    · exact (by first | exact MLe.none _ | exact MLe.refl _ | (repeat' (first | exact MLe.nil | exact MLe.refl _ | refine MLe.cons _ ?_ | refine MLe.drop _ ?_)))
    rintro i hI
    try dsimp only [List.cons_append, List.nil_append] at hI ⊢
    obtain ⟨hi, hu⟩ := hI
    refine c_seq ?_
    refine c_region ?_
    refine AOps.st 18 rfl rfl rfl (op_lss rfl rfl rfl ?_); intro c18 h18
    refine AOps.nil ?_
    refine go_code ?_
    refine c_seq ?_
    rcases bool_split h18 with ⟨rfl, g18⟩ | ⟨rfl, g18⟩
    · refine c_cond_f rfl ?_
      refine c_exit ?_
      refine x_code ?_
      refine x_lp ?_
      refine x_here ?_
      refine go_code ?_
      refine c_seq ?_
      refine c_region ?_
      refine AOps.st 6 rfl rfl rfl (op_assign rfl rfl ?_)
      refine AOps.nil ?_
      refine go_code ?_
      refine c_ret ?_
      exact out_tmp rfl rfl (Le.refl _) (by first | exact MLe.none _ | exact MLe.refl _ | (repeat' (first | exact MLe.nil | exact MLe.refl _ | refine MLe.cons _ ?_ | refine MLe.drop _ ?_))) ⟨⟨_, iff_t (hu.eq (by simp; omega) (by simp; omega)), rfl⟩, rfl⟩
    · refine c_cond_t rfl ?_
      refine c_skip ?_
      refine go_code ?_
      refine c_seq ?_
      refine c_block ?_
      refine c_seq ?_
      obtain ⟨⟨z1s, z1v, z1su, z1ms, z1ds, z1p⟩, hx⟩ := get_some (l := xs) (i := i) (by omega)
      obtain ⟨⟨z2s, z2v, z2su, z2ms, z2ds, z2p⟩, hy⟩ := get_some (l := ys) (i := i) (by omega)
      have hcx := Cl.cellss_get hx
      have hcy := Cl.cellss_get hy
      refine c_region ?_
      refine AOps.st 19 rfl rfl rfl (op_move rfl rfl ?_)
      refine AOps.st 20 rfl rfl rfl (op_index rfl te_78 rfl (.seq _ _) rfl rfl (by assumption) ?_)
      first | (refine AOps.st 21 rfl rfl rfl (op_load_m (cs' := [_, _, _, _, _, _]) (i := 0) rfl ta_124 rfl rfl rfl rfl ?_)) | (refine AOps.st 21 rfl rfl rfl (op_load_m (cs' := [_, _, _, _, _, _]) (i := 1) rfl ta_124 rfl rfl rfl rfl ?_)) | (refine AOps.st 21 rfl rfl rfl (op_load_m (cs' := [_, _, _, _, _, _]) (i := 2) rfl ta_124 rfl rfl rfl rfl ?_)) | (refine AOps.st 21 rfl rfl rfl (op_load_m (cs' := [_, _, _, _, _, _]) (i := 3) rfl ta_124 rfl rfl rfl rfl ?_)) | (refine AOps.st 21 rfl rfl rfl (op_load_m (cs' := [_, _, _, _, _, _]) (i := 4) rfl ta_124 rfl rfl rfl rfl ?_)) | (refine AOps.st 21 rfl rfl rfl (op_load_m (cs' := [_, _, _, _, _, _]) (i := 5) rfl ta_124 rfl rfl rfl rfl ?_)) | (refine AOps.st 21 rfl rfl rfl (op_load_c (cs' := [_, _, _, _, _, _]) rfl ta_124 rfl rfl rfl ?_))
      refine AOps.st 8 rfl rfl rfl (op_alloce (cs' := [_, _, _, _, _, _]) rfl tz_124 rfl rfl ?_); intro b8
      refine AOps.st 7 rfl rfl rfl (op_assign rfl rfl ?_)
      refine AOps.st0 rfl rfl (op_store (cs' := [_, _, _, _, _, _]) (i := 0) rfl ts_124 rfl rfl rfl rfl rfl (Nat.le_of_ble_eq_true rfl) rfl ?_)
      refine AOps.nil ?_
      refine go_code ?_
      refine c_seq ?_
      refine c_region ?_
      refine AOps.st 22 rfl rfl rfl (op_move rfl rfl ?_)
      refine AOps.st 23 rfl rfl rfl (op_move rfl rfl ?_)
      refine AOps.st 24 rfl rfl rfl (op_index rfl te_78 rfl (.seq _ _) rfl rfl (by assumption) ?_)
      first | (refine AOps.st 25 rfl rfl rfl (op_load_m (cs' := [_, _, _, _, _, _]) (i := 0) rfl ta_124 rfl rfl rfl rfl ?_)) | (refine AOps.st 25 rfl rfl rfl (op_load_m (cs' := [_, _, _, _, _, _]) (i := 1) rfl ta_124 rfl rfl rfl rfl ?_)) | (refine AOps.st 25 rfl rfl rfl (op_load_m (cs' := [_, _, _, _, _, _]) (i := 2) rfl ta_124 rfl rfl rfl rfl ?_)) | (refine AOps.st 25 rfl rfl rfl (op_load_m (cs' := [_, _, _, _, _, _]) (i := 3) rfl ta_124 rfl rfl rfl rfl ?_)) | (refine AOps.st 25 rfl rfl rfl (op_load_m (cs' := [_, _, _, _, _, _]) (i := 4) rfl ta_124 rfl rfl rfl rfl ?_)) | (refine AOps.st 25 rfl rfl rfl (op_load_m (cs' := [_, _, _, _, _, _]) (i := 5) rfl ta_124 rfl rfl rfl rfl ?_)) | (refine AOps.st 25 rfl rfl rfl (op_load_c (cs' := [_, _, _, _, _, _]) rfl ta_124 rfl rfl rfl ?_))
      refine AOps.st 9 rfl rfl rfl (op_alloce (cs' := [_, _, _, _, _, _]) rfl tz_124 rfl rfl ?_); intro b9
      refine AOps.st0 rfl rfl (op_store (cs' := [_, _, _, _, _, _]) (i := 0) rfl ts_124 rfl rfl rfl rfl rfl (Nat.le_of_ble_eq_true rfl) rfl ?_)
      refine AOps.nil ?_
      refine go_code ?_
      refine c_seq ?_
      refine c_region ?_
      refine AOps.st 26 rfl rfl rfl (op_move rfl rfl ?_)
      first | (refine AOps.st 27 rfl rfl rfl (op_load_m (cs' := [_, _, _, _, _, _]) (i := 0) rfl ta_124 rfl rfl rfl rfl ?_)) | (refine AOps.st 27 rfl rfl rfl (op_load_m (cs' := [_, _, _, _, _, _]) (i := 1) rfl ta_124 rfl rfl rfl rfl ?_))
      refine AOps.st 28 rfl rfl rfl (op_load_m (cs' := [_, _, _, _, _, _]) (i := 0) rfl ta_124 rfl rfl rfl rfl ?_)
      refine AOps.st 29 rfl rfl rfl (op_callvb (xs := [.tmp 27, .tmp 28]) rfl rfl rfl (hg _ (List.mem_of_getElem? hx) ⟨z2s, z2v, z2su, z2ms, z2ds, z2p⟩) (by first | exact Les.refl _ | (repeat' (first | exact Les.refl _ | refine Les.cons ?_ ?_ | exact Le.refl _ | exact Le.own _ _ _ | exact Le.nil _ | refine Le.agg ?_))) ?_); intro c29 h29
      refine AOps.st 30 rfl rfl rfl (op_notc rfl rfl ?_); intro c30 h30
      try replace h30 := nott h30 h29
      refine AOps.nil ?_
      refine go_code ?_
      rcases bool_split h30 with ⟨rfl, g30⟩ | ⟨rfl, g30⟩
      · refine c_cond_f rfl ?_
        refine c_skip ?_
        refine go_blk ?_
        refine go_code ?_
        refine c_region ?_
        refine AOps.st 31 rfl rfl rfl (op_add rfl rfl rfl (IntWalk.i64_in _ (by omega)) ?_)
        refine AOps.st 17 rfl rfl rfl (op_move rfl rfl ?_)
        refine AOps.nil ?_
        refine go_lp ?_
        exact ⟨i + 1, ⟨by omega, upto_map f hu hx hy (Classical.not_not.1 g30)⟩, by simp; omega, (by repeat' (first | exact SLe.nil _ | refine SLe.cons rfl ?_ ?_ | exact Le.refl _ | exact Le.own _ _ _ | exact Le.nil _)), (by first | exact MLe.none _ | exact MLe.refl _ | (repeat' (first | exact MLe.nil | exact MLe.refl _ | refine MLe.cons _ ?_ | refine MLe.drop _ ?_)))⟩
      · refine c_cond_t rfl ?_
        refine c_seq ?_
        refine c_region ?_
        refine AOps.st 6 rfl rfl rfl (op_assign rfl rfl ?_)
        refine AOps.nil ?_
        refine go_code ?_
        refine c_ret ?_
        exact out_tmp rfl rfl (Le.refl _) (by first | exact MLe.none _ | exact MLe.refl _ | (repeat' (first | exact MLe.nil | exact MLe.refl _ | refine MLe.cons _ ?_ | refine MLe.drop _ ?_))) ⟨⟨_, iff_f (map_ne f hx hy g30), rfl⟩, rfl⟩
  · refine c_cond_t rfl ?_
    refine c_seq ?_
    refine c_region ?_
    refine AOps.st 6 rfl rfl rfl (op_assign rfl rfl ?_)
    refine AOps.nil ?_
    refine go_code ?_
    refine c_ret ?_
    exact out_tmp rfl rfl (Le.refl _) (by first | exact MLe.none _ | exact MLe.refl _ | (repeat' (first | exact MLe.nil | exact MLe.refl _ | refine MLe.cons _ ?_ | refine MLe.drop _ ?_))) ⟨⟨_, iff_f (map_len_ne f (by omega)), rfl⟩, rfl⟩
set_option maxHeartbeats 4000000 in
set_option maxRecDepth 100000 in
theorem Eqs_Cl {β : Type} (f : Cl → β) (g : FuncId) (xs ys : List Cl) (hg : ∀ x ∈ xs, ∀ y, BCall Try.prog g [.agg x.cells, .agg y.cells] (f x = f y)) : BCall Try.prog 101 [.seq 6 (Cl.cellss xs), .seq 6 (Cl.cellss ys), .clo (.func g) [] []] (xs.map f = ys.map f) := by
  have H := EqF_Cl f g xs ys hg
  refine ACall.enter Try.func101 rfl (by kernel_rfl) rfl (Nat.le_of_ble_eq_true rfl) ?_
  refine c_start ?_
  refine c_seq ?_
  refine c_region ?_
  refine AOps.st 6 rfl rfl rfl (op_assign rfl rfl ?_)
  refine AOps.nil ?_
  refine go_code ?_
  refine c_seq ?_
  refine c_region ?_
  refine AOps.st 7 rfl rfl rfl (op_move rfl rfl ?_)
  refine AOps.st 8 rfl rfl rfl (op_move rfl rfl ?_)
  refine AOps.st 9 rfl rfl rfl (op_move rfl rfl ?_)
  refine AOps.st 10 rfl rfl rfl (op_callb (xs := [.tmp 7, .tmp 8, .tmp 9]) rfl rfl (H) (by first | exact Les.refl _ | (repeat' (first | exact Les.refl _ | refine Les.cons ?_ ?_ | exact Le.refl _ | exact Le.own _ _ _ | exact Le.nil _ | refine Le.agg ?_))) ?_); intro c10 h10
  refine AOps.st 6 rfl rfl rfl (op_assign rfl rfl ?_)
  refine AOps.nil ?_
  refine go_code ?_
  refine c_ret ?_
  exact out_tmp rfl rfl (Le.refl _) (by first | exact MLe.none _ | exact MLe.refl _ | (repeat' (first | exact MLe.nil | exact MLe.refl _ | refine MLe.cons _ ?_ | refine MLe.drop _ ?_))) ⟨⟨_, h10, rfl⟩, rfl⟩
set_option maxHeartbeats 4000000 in
set_option maxRecDepth 100000 in
theorem EqF_In {β : Type} (f : In → β) (g : FuncId) (xs ys : List In) (hg : ∀ x ∈ xs, ∀ y, BCall Try.prog g [.agg x.cells, .agg y.cells] (f x = f y)) : BCall Try.prog 134 [.seq 8 (In.cellss xs), .seq 8 (In.cellss ys), .clo (.func g) [] []] (xs.map f = ys.map f) := by
  have hlx := In.cellss_len xs
  have hly := In.cellss_len ys
  refine ACall.enter Try.func134 rfl (by kernel_rfl) rfl (Nat.le_of_ble_eq_true rfl) ?_
  refine c_start ?_
  refine c_lens (t := 0) rfl (.seq _ _) (fun hmax => ?_)
  refine c_seq ?_
  refine c_region ?_
  refine AOps.st 6 rfl rfl rfl (op_assign rfl rfl ?_)
  refine AOps.nil ?_
  refine go_code ?_
  refine c_seq ?_
  refine c_seq ?_
  refine c_region ?_
  refine AOps.st 10 rfl rfl rfl (op_move rfl rfl ?_)
  refine AOps.st 11 rfl rfl rfl (op_len rfl tu_79 rfl (.seq _ _) (fun n11 => ?_))
  refine AOps.st 12 rfl rfl rfl (op_move rfl rfl ?_)
  refine AOps.st 13 rfl rfl rfl (op_len rfl tu_79 rfl (.seq _ _) (fun n13 => ?_))
  refine AOps.st 14 rfl rfl rfl (op_neq rfl rfl rfl ?_); intro c14 h14
  refine AOps.nil ?_
  refine go_code ?_
  rcases bool_split h14 with ⟨rfl, g14⟩ | ⟨rfl, g14⟩
  · refine c_cond_f rfl ?_
    refine c_skip ?_
    refine go_code ?_
    refine c_seq ?_
    refine c_seq ?_
    refine c_region ?_
    refine AOps.st 15 rfl rfl rfl (op_move rfl rfl ?_)
    refine AOps.st 16 rfl rfl rfl (op_len rfl tu_79 rfl (.seq _ _) (fun n16 => ?_))
    refine AOps.st 17 rfl rfl rfl (op_move rfl rfl ?_)
    refine AOps.nil ?_
    refine go_code ?_
    refine c_block ?_
    refine c_loop (σ := Nat) (fun zz => match zz with | i => [(0, .seq 8 (In.cellss xs)), (1, .seq 8 (In.cellss ys)), (2, .clo (.func g) [] []), (15, .seq 8 (In.cellss xs)), (16, .val (.int .i64 (In.cellss xs).length)), (17, .val (.int .i64 i))]) (fun zz => match zz with | i => []) (fun zz => match zz with | i => i ≤ xs.length ∧ Upto (xs.map f) (ys.map f) i) (fun zz => match zz with | i => xs.length - i) (0) ?_ ?_ ?_ ?_
    · exact ⟨by omega, Upto.zero _ _⟩
    · exact (by repeat' (first | exact SLe.nil _ | refine SLe.cons rfl ?_ ?_ | exact Le.refl _ | exact Le.own _ _ _ | exact Le.nil _))
    · exact (by first | exact MLe.none _ | exact MLe.refl _ | (repeat' (first | exact MLe.nil | exact MLe.refl _ | refine MLe.cons _ ?_ | refine MLe.drop _ ?_)))
    rintro i hI
    try dsimp only [List.cons_append, List.nil_append] at hI ⊢
    obtain ⟨hi, hu⟩ := hI
    refine c_seq ?_
    refine c_region ?_
    refine AOps.st 18 rfl rfl rfl (op_lss rfl rfl rfl ?_); intro c18 h18
    refine AOps.nil ?_
    refine go_code ?_
    refine c_seq ?_
    rcases bool_split h18 with ⟨rfl, g18⟩ | ⟨rfl, g18⟩
    · refine c_cond_f rfl ?_
      refine c_exit ?_
      refine x_code ?_
      refine x_lp ?_
      refine x_here ?_
      refine go_code ?_
      refine c_seq ?_
      refine c_region ?_
      refine AOps.st 6 rfl rfl rfl (op_assign rfl rfl ?_)
      refine AOps.nil ?_
      refine go_code ?_
      refine c_ret ?_
      exact out_tmp rfl rfl (Le.refl _) (by first | exact MLe.none _ | exact MLe.refl _ | (repeat' (first | exact MLe.nil | exact MLe.refl _ | refine MLe.cons _ ?_ | refine MLe.drop _ ?_))) ⟨⟨_, iff_t (hu.eq (by simp; omega) (by simp; omega)), rfl⟩, rfl⟩
    · refine c_cond_t rfl ?_
      refine c_skip ?_
      refine go_code ?_
      refine c_seq ?_
      refine c_block ?_
      refine c_seq ?_
      obtain ⟨⟨z1c, ⟨z1hdk, z1hds, z1hdn, z1hdl⟩, z1cx, z1bs, z1p⟩, hx⟩ := get_some (l := xs) (i := i) (by omega)
      obtain ⟨⟨z2c, ⟨z2hdk, z2hds, z2hdn, z2hdl⟩, z2cx, z2bs, z2p⟩, hy⟩ := get_some (l := ys) (i := i) (by omega)
      have hcx := In.cellss_get hx
      have hcy := In.cellss_get hy
      refine c_region ?_
      refine AOps.st 19 rfl rfl rfl (op_move rfl rfl ?_)
      refine AOps.st 20 rfl rfl rfl (op_index rfl te_79 rfl (.seq _ _) rfl rfl (by assumption) ?_)
      first | (refine AOps.st 21 rfl rfl rfl (op_load_m (cs' := [_, _, _, _, _, _, _, _]) (i := 0) rfl ta_127 rfl rfl rfl rfl ?_)) | (refine AOps.st 21 rfl rfl rfl (op_load_m (cs' := [_, _, _, _, _, _, _, _]) (i := 1) rfl ta_127 rfl rfl rfl rfl ?_)) | (refine AOps.st 21 rfl rfl rfl (op_load_m (cs' := [_, _, _, _, _, _, _, _]) (i := 2) rfl ta_127 rfl rfl rfl rfl ?_)) | (refine AOps.st 21 rfl rfl rfl (op_load_m (cs' := [_, _, _, _, _, _, _, _]) (i := 3) rfl ta_127 rfl rfl rfl rfl ?_)) | (refine AOps.st 21 rfl rfl rfl (op_load_m (cs' := [_, _, _, _, _, _, _, _]) (i := 4) rfl ta_127 rfl rfl rfl rfl ?_)) | (refine AOps.st 21 rfl rfl rfl (op_load_m (cs' := [_, _, _, _, _, _, _, _]) (i := 5) rfl ta_127 rfl rfl rfl rfl ?_)) | (refine AOps.st 21 rfl rfl rfl (op_load_c (cs' := [_, _, _, _, _, _, _, _]) rfl ta_127 rfl rfl rfl ?_))
      refine AOps.st 8 rfl rfl rfl (op_alloce (cs' := [_, _, _, _, _, _, _, _]) rfl tz_127 rfl rfl ?_); intro b8
      refine AOps.st 7 rfl rfl rfl (op_assign rfl rfl ?_)
      refine AOps.st0 rfl rfl (op_store (cs' := [_, _, _, _, _, _, _, _]) (i := 0) rfl ts_127 rfl rfl rfl rfl rfl (Nat.le_of_ble_eq_true rfl) rfl ?_)
      refine AOps.nil ?_
      refine go_code ?_
      refine c_seq ?_
      refine c_region ?_
      refine AOps.st 22 rfl rfl rfl (op_move rfl rfl ?_)
      refine AOps.st 23 rfl rfl rfl (op_move rfl rfl ?_)
      refine AOps.st 24 rfl rfl rfl (op_index rfl te_79 rfl (.seq _ _) rfl rfl (by assumption) ?_)
      first | (refine AOps.st 25 rfl rfl rfl (op_load_m (cs' := [_, _, _, _, _, _, _, _]) (i := 0) rfl ta_127 rfl rfl rfl rfl ?_)) | (refine AOps.st 25 rfl rfl rfl (op_load_m (cs' := [_, _, _, _, _, _, _, _]) (i := 1) rfl ta_127 rfl rfl rfl rfl ?_)) | (refine AOps.st 25 rfl rfl rfl (op_load_m (cs' := [_, _, _, _, _, _, _, _]) (i := 2) rfl ta_127 rfl rfl rfl rfl ?_)) | (refine AOps.st 25 rfl rfl rfl (op_load_m (cs' := [_, _, _, _, _, _, _, _]) (i := 3) rfl ta_127 rfl rfl rfl rfl ?_)) | (refine AOps.st 25 rfl rfl rfl (op_load_m (cs' := [_, _, _, _, _, _, _, _]) (i := 4) rfl ta_127 rfl rfl rfl rfl ?_)) | (refine AOps.st 25 rfl rfl rfl (op_load_m (cs' := [_, _, _, _, _, _, _, _]) (i := 5) rfl ta_127 rfl rfl rfl rfl ?_)) | (refine AOps.st 25 rfl rfl rfl (op_load_c (cs' := [_, _, _, _, _, _, _, _]) rfl ta_127 rfl rfl rfl ?_))
      refine AOps.st 9 rfl rfl rfl (op_alloce (cs' := [_, _, _, _, _, _, _, _]) rfl tz_127 rfl rfl ?_); intro b9
      refine AOps.st0 rfl rfl (op_store (cs' := [_, _, _, _, _, _, _, _]) (i := 0) rfl ts_127 rfl rfl rfl rfl rfl (Nat.le_of_ble_eq_true rfl) rfl ?_)
      refine AOps.nil ?_
      refine go_code ?_
      refine c_seq ?_
      refine c_region ?_
      refine AOps.st 26 rfl rfl rfl (op_move rfl rfl ?_)
      first | (refine AOps.st 27 rfl rfl rfl (op_load_m (cs' := [_, _, _, _, _, _, _, _]) (i := 0) rfl ta_127 rfl rfl rfl rfl ?_)) | (refine AOps.st 27 rfl rfl rfl (op_load_m (cs' := [_, _, _, _, _, _, _, _]) (i := 1) rfl ta_127 rfl rfl rfl rfl ?_))
      refine AOps.st 28 rfl rfl rfl (op_load_m (cs' := [_, _, _, _, _, _, _, _]) (i := 0) rfl ta_127 rfl rfl rfl rfl ?_)
      refine AOps.st 29 rfl rfl rfl (op_callvb (xs := [.tmp 27, .tmp 28]) rfl rfl rfl (hg _ (List.mem_of_getElem? hx) ⟨z2c, ⟨z2hdk, z2hds, z2hdn, z2hdl⟩, z2cx, z2bs, z2p⟩) (by first | exact Les.refl _ | (repeat' (first | exact Les.refl _ | refine Les.cons ?_ ?_ | exact Le.refl _ | exact Le.own _ _ _ | exact Le.nil _ | refine Le.agg ?_))) ?_); intro c29 h29
      refine AOps.st 30 rfl rfl rfl (op_notc rfl rfl ?_); intro c30 h30
      try replace h30 := nott h30 h29
      refine AOps.nil ?_
      refine go_code ?_
      rcases bool_split h30 with ⟨rfl, g30⟩ | ⟨rfl, g30⟩
      · refine c_cond_f rfl ?_
        refine c_skip ?_
        refine go_blk ?_
        refine go_code ?_
        refine c_region ?_
        refine AOps.st 31 rfl rfl rfl (op_add rfl rfl rfl (IntWalk.i64_in _ (by omega)) ?_)
        refine AOps.st 17 rfl rfl rfl (op_move rfl rfl ?_)
        refine AOps.nil ?_
        refine go_lp ?_
        exact ⟨i + 1, ⟨by omega, upto_map f hu hx hy (Classical.not_not.1 g30)⟩, by simp; omega, (by repeat' (first | exact SLe.nil _ | refine SLe.cons rfl ?_ ?_ | exact Le.refl _ | exact Le.own _ _ _ | exact Le.nil _)), (by first | exact MLe.none _ | exact MLe.refl _ | (repeat' (first | exact MLe.nil | exact MLe.refl _ | refine MLe.cons _ ?_ | refine MLe.drop _ ?_)))⟩
      · refine c_cond_t rfl ?_
        refine c_seq ?_
        refine c_region ?_
        refine AOps.st 6 rfl rfl rfl (op_assign rfl rfl ?_)
        refine AOps.nil ?_
        refine go_code ?_
        refine c_ret ?_
        exact out_tmp rfl rfl (Le.refl _) (by first | exact MLe.none _ | exact MLe.refl _ | (repeat' (first | exact MLe.nil | exact MLe.refl _ | refine MLe.cons _ ?_ | refine MLe.drop _ ?_))) ⟨⟨_, iff_f (map_ne f hx hy g30), rfl⟩, rfl⟩
  · refine c_cond_t rfl ?_
    refine c_seq ?_
    refine c_region ?_
    refine AOps.st 6 rfl rfl rfl (op_assign rfl rfl ?_)
    refine AOps.nil ?_
    refine go_code ?_
    refine c_ret ?_
    exact out_tmp rfl rfl (Le.refl _) (by first | exact MLe.none _ | exact MLe.refl _ | (repeat' (first | exact MLe.nil | exact MLe.refl _ | refine MLe.cons _ ?_ | refine MLe.drop _ ?_))) ⟨⟨_, iff_f (map_len_ne f (by omega)), rfl⟩, rfl⟩
set_option maxHeartbeats 4000000 in
set_option maxRecDepth 100000 in
theorem Eqs_In {β : Type} (f : In → β) (g : FuncId) (xs ys : List In) (hg : ∀ x ∈ xs, ∀ y, BCall Try.prog g [.agg x.cells, .agg y.cells] (f x = f y)) : BCall Try.prog 103 [.seq 8 (In.cellss xs), .seq 8 (In.cellss ys), .clo (.func g) [] []] (xs.map f = ys.map f) := by
  have H := EqF_In f g xs ys hg
  refine ACall.enter Try.func103 rfl (by kernel_rfl) rfl (Nat.le_of_ble_eq_true rfl) ?_
  refine c_start ?_
  refine c_seq ?_
  refine c_region ?_
  refine AOps.st 6 rfl rfl rfl (op_assign rfl rfl ?_)
  refine AOps.nil ?_
  refine go_code ?_
  refine c_seq ?_
  refine c_region ?_
  refine AOps.st 7 rfl rfl rfl (op_move rfl rfl ?_)
  refine AOps.st 8 rfl rfl rfl (op_move rfl rfl ?_)
  refine AOps.st 9 rfl rfl rfl (op_move rfl rfl ?_)
  refine AOps.st 10 rfl rfl rfl (op_callb (xs := [.tmp 7, .tmp 8, .tmp 9]) rfl rfl (H) (by first | exact Les.refl _ | (repeat' (first | exact Les.refl _ | refine Les.cons ?_ ?_ | exact Le.refl _ | exact Le.own _ _ _ | exact Le.nil _ | refine Le.agg ?_))) ?_); intro c10 h10
  refine AOps.st 6 rfl rfl rfl (op_assign rfl rfl ?_)
  refine AOps.nil ?_
  refine go_code ?_
  refine c_ret ?_
  exact out_tmp rfl rfl (Le.refl _) (by first | exact MLe.none _ | exact MLe.refl _ | (repeat' (first | exact MLe.nil | exact MLe.refl _ | refine MLe.cons _ ?_ | refine MLe.drop _ ?_))) ⟨⟨_, h10, rfl⟩, rfl⟩
end Go.Proofs.Ytjgjnheeohfmmaa
