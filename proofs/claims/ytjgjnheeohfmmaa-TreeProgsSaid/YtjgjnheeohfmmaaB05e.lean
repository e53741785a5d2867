/- slices.EqualFunc and tree.same, for lists of types, patterns, expressions, alternatives, binds: alike under a map. -/
import Derived.Test.YtjgjnheeohfmmaaTF
import Derived.Test.YtjgjnheeohfmmaaAL10
import Derived.Test.YtjgjnheeohfmmaaPE
import Derived.Test.YtjgjnheeohfmmaaB05s
namespace Go.Proofs.Ytjgjnheeohfmmaa
open Go.RowKit
set_option maxHeartbeats 4000000 in
set_option maxRecDepth 100000 in
theorem EqF_Ty {β : Type} (f : Ty → β) (g : FuncId) (xs ys : List Ty) (hg : ∀ x ∈ xs, ∀ y, BCall Try.prog g [.agg x.cells, .agg y.cells] (f x = f y)) : BCall Try.prog 109 [.seq 4 (Ty.cellss xs), .seq 4 (Ty.cellss ys), .clo (.func g) [] []] (xs.map f = ys.map f) := by
  have hlx := Ty.cellss_len xs
  have hly := Ty.cellss_len ys
  refine ACall.enter Try.func109 rfl (by kernel_rfl) rfl (Nat.le_of_ble_eq_true rfl) ?_
  refine c_start ?_
  refine c_lens (t := 0) rfl (.seq _ _) (fun hmax => ?_)
  refine c_seq ?_
  refine c_region ?_
  refine AOps.st 6 rfl rfl rfl (op_assign rfl rfl ?_)
  refine AOps.nil ?_
  refine go_code ?_
  refine c_seq ?_
  refine c_seq ?_
  refine c_region ?_
  refine AOps.st 10 rfl rfl rfl (op_move rfl rfl ?_)
  refine AOps.st 11 rfl rfl rfl (op_len rfl tu_22 rfl (.seq _ _) (fun n11 => ?_))
  refine AOps.st 12 rfl rfl rfl (op_move rfl rfl ?_)
  refine AOps.st 13 rfl rfl rfl (op_len rfl tu_22 rfl (.seq _ _) (fun n13 => ?_))
  refine AOps.st 14 rfl rfl rfl (op_neq rfl rfl rfl ?_); intro c14 h14
  refine AOps.nil ?_
  refine go_code ?_
  rcases bool_split h14 with ⟨rfl, g14⟩ | ⟨rfl, g14⟩
  · refine c_cond_f rfl ?_
    refine c_skip ?_
    refine go_code ?_
    refine c_seq ?_
    refine c_seq ?_
    refine c_region ?_
    refine AOps.st 15 rfl rfl rfl (op_move rfl rfl ?_)
    refine AOps.st 16 rfl rfl rfl (op_len rfl tu_22 rfl (.seq _ _) (fun n16 => ?_))
    refine AOps.st 17 rfl rfl rfl (op_move rfl rfl ?_)
    refine AOps.nil ?_
    refine go_code ?_
    refine c_block ?_
    refine c_loop (σ := Nat) (fun zz => match zz with | i => [(0, .seq 4 (Ty.cellss xs)), (1, .seq 4 (Ty.cellss ys)), (2, .clo (.func g) [] []), (15, .seq 4 (Ty.cellss xs)), (16, .val (.int .i64 (Ty.cellss xs).length)), (17, .val (.int .i64 i))]) (fun zz => match zz with | i => []) (fun zz => match zz with | i => i ≤ xs.length ∧ Upto (xs.map f) (ys.map f) i) (fun zz => match zz with | i => xs.length - i) (0) ?_ ?_ ?_ ?_
    · exact ⟨by omega, Upto.zero _ _⟩
    · exact (by repeat' (first | exact SLe.nil _ | refine SLe.cons rfl ?_ ?_ | exact Le.refl _ | exact Le.own _ _ _ | exact Le.nil _))
    · exact (by first | exact MLe.none _ | exact MLe.refl _ | (repeat' (first | exact MLe.nil | exact MLe.refl _ | refine MLe.cons _ ?_ | refine MLe.drop _ ?_)))
    rintro i hI
    try dsimp only at hI ⊢
    obtain ⟨hi, hu⟩ := hI
    refine c_seq ?_
    refine c_region ?_
    refine AOps.st 18 rfl rfl rfl (op_lss rfl rfl rfl ?_); intro c18 h18
    refine AOps.nil ?_
    refine go_code ?_
    refine c_seq ?_
    rcases bool_split h18 with ⟨rfl, g18⟩ | ⟨rfl, g18⟩
    · refine c_cond_f rfl ?_
      refine c_exit ?_
      refine x_code ?_
      refine x_lp ?_
      refine x_here ?_
      refine go_code ?_
      refine c_seq ?_
      refine c_region ?_
      refine AOps.st 6 rfl rfl rfl (op_assign rfl rfl ?_)
      refine AOps.nil ?_
      refine go_code ?_
      refine c_ret ?_
      exact out_tmp rfl rfl (Le.refl _) (by first | exact MLe.none _ | exact MLe.refl _ | (repeat' (first | exact MLe.nil | exact MLe.refl _ | refine MLe.cons _ ?_ | refine MLe.drop _ ?_))) ⟨⟨_, iff_t (hu.eq (by simp; omega) (by simp; omega)), rfl⟩, rfl⟩
    · refine c_cond_t rfl ?_
      refine c_skip ?_
      refine go_code ?_
      refine c_seq ?_
      refine c_block ?_
      refine c_seq ?_
      obtain ⟨⟨k1, s1, n1, ks1⟩, hx⟩ := get_some (l := xs) (i := i) (by omega)
      obtain ⟨⟨k2, s2, n2, ks2⟩, hy⟩ := get_some (l := ys) (i := i) (by omega)
      have hcx := Ty.cellss_get hx
      have hcy := Ty.cellss_get hy
      refine c_region ?_
      refine AOps.st 19 rfl rfl rfl (op_move rfl rfl ?_)
      refine AOps.st 20 rfl rfl rfl (op_index rfl te_22 rfl (.seq _ _) rfl rfl (by assumption) ?_)
      first | (refine AOps.st 21 rfl rfl rfl (op_load_m (cs' := [_, _, _, _]) (i := 0) rfl ta_24 rfl rfl rfl rfl ?_)) | (refine AOps.st 21 rfl rfl rfl (op_load_m (cs' := [_, _, _, _]) (i := 1) rfl ta_24 rfl rfl rfl rfl ?_)) | (refine AOps.st 21 rfl rfl rfl (op_load_m (cs' := [_, _, _, _]) (i := 2) rfl ta_24 rfl rfl rfl rfl ?_)) | (refine AOps.st 21 rfl rfl rfl (op_load_m (cs' := [_, _, _, _]) (i := 3) rfl ta_24 rfl rfl rfl rfl ?_)) | (refine AOps.st 21 rfl rfl rfl (op_load_m (cs' := [_, _, _, _]) (i := 4) rfl ta_24 rfl rfl rfl rfl ?_)) | (refine AOps.st 21 rfl rfl rfl (op_load_m (cs' := [_, _, _, _]) (i := 5) rfl ta_24 rfl rfl rfl rfl ?_)) | (refine AOps.st 21 rfl rfl rfl (op_load_c (cs' := [_, _, _, _]) rfl ta_24 rfl rfl rfl ?_))
      refine AOps.st 8 rfl rfl rfl (op_alloce (cs' := [_, _, _, _]) rfl tz_24 rfl rfl ?_); intro b8
      refine AOps.st 7 rfl rfl rfl (op_assign rfl rfl ?_)
      refine AOps.st0 rfl rfl (op_store (cs' := [_, _, _, _]) (i := 0) rfl ts_24 rfl rfl rfl rfl rfl (Nat.le_of_ble_eq_true rfl) rfl ?_)
      refine AOps.nil ?_
      refine go_code ?_
      refine c_seq ?_
      refine c_region ?_
      refine AOps.st 22 rfl rfl rfl (op_move rfl rfl ?_)
      refine AOps.st 23 rfl rfl rfl (op_move rfl rfl ?_)
      refine AOps.st 24 rfl rfl rfl (op_index rfl te_22 rfl (.seq _ _) rfl rfl (by assumption) ?_)
      first | (refine AOps.st 25 rfl rfl rfl (op_load_m (cs' := [_, _, _, _]) (i := 0) rfl ta_24 rfl rfl rfl rfl ?_)) | (refine AOps.st 25 rfl rfl rfl (op_load_m (cs' := [_, _, _, _]) (i := 1) rfl ta_24 rfl rfl rfl rfl ?_)) | (refine AOps.st 25 rfl rfl rfl (op_load_m (cs' := [_, _, _, _]) (i := 2) rfl ta_24 rfl rfl rfl rfl ?_)) | (refine AOps.st 25 rfl rfl rfl (op_load_m (cs' := [_, _, _, _]) (i := 3) rfl ta_24 rfl rfl rfl rfl ?_)) | (refine AOps.st 25 rfl rfl rfl (op_load_m (cs' := [_, _, _, _]) (i := 4) rfl ta_24 rfl rfl rfl rfl ?_)) | (refine AOps.st 25 rfl rfl rfl (op_load_m (cs' := [_, _, _, _]) (i := 5) rfl ta_24 rfl rfl rfl rfl ?_)) | (refine AOps.st 25 rfl rfl rfl (op_load_c (cs' := [_, _, _, _]) rfl ta_24 rfl rfl rfl ?_))
      refine AOps.st 9 rfl rfl rfl (op_alloce (cs' := [_, _, _, _]) rfl tz_24 rfl rfl ?_); intro b9
      refine AOps.st0 rfl rfl (op_store (cs' := [_, _, _, _]) (i := 0) rfl ts_24 rfl rfl rfl rfl rfl (Nat.le_of_ble_eq_true rfl) rfl ?_)
      refine AOps.nil ?_
      refine go_code ?_
      refine c_seq ?_
      refine c_region ?_
      refine AOps.st 26 rfl rfl rfl (op_move rfl rfl ?_)
      first | (refine AOps.st 27 rfl rfl rfl (op_load_m (cs' := [_, _, _, _]) (i := 0) rfl ta_24 rfl rfl rfl rfl ?_)) | (refine AOps.st 27 rfl rfl rfl (op_load_m (cs' := [_, _, _, _]) (i := 1) rfl ta_24 rfl rfl rfl rfl ?_))
      refine AOps.st 28 rfl rfl rfl (op_load_m (cs' := [_, _, _, _]) (i := 0) rfl ta_24 rfl rfl rfl rfl ?_)
      refine AOps.st 29 rfl rfl rfl (op_callvb (xs := [.tmp 27, .tmp 28]) rfl rfl rfl (hg _ (List.mem_of_getElem? hx) ⟨k2, s2, n2, ks2⟩) (by first | exact Les.refl _ | (repeat' (first | exact Les.refl _ | refine Les.cons ?_ ?_ | exact Le.refl _ | exact Le.own _ _ _ | exact Le.nil _ | refine Le.agg ?_))) ?_); intro c29 h29
      refine AOps.st 30 rfl rfl rfl (op_notc rfl rfl ?_); intro c30 h30
      try replace h30 := nott h30 h29
      refine AOps.nil ?_
      refine go_code ?_
      rcases bool_split h30 with ⟨rfl, g30⟩ | ⟨rfl, g30⟩
      · refine c_cond_f rfl ?_
        refine c_skip ?_
        refine go_blk ?_
        refine go_code ?_
        refine c_region ?_
        refine AOps.st 31 rfl rfl rfl (op_add rfl rfl rfl (IntWalk.i64_in _ (by omega)) ?_)
        refine AOps.st 17 rfl rfl rfl (op_move rfl rfl ?_)
        refine AOps.nil ?_
        refine go_lp ?_
        exact ⟨i + 1, ⟨by omega, upto_map f hu hx hy (Classical.not_not.1 g30)⟩, by simp; omega, (by repeat' (first | exact SLe.nil _ | refine SLe.cons rfl ?_ ?_ | exact Le.refl _ | exact Le.own _ _ _ | exact Le.nil _)), (by first | exact MLe.none _ | exact MLe.refl _ | (repeat' (first | exact MLe.nil | exact MLe.refl _ | refine MLe.cons _ ?_ | refine MLe.drop _ ?_)))⟩
      · refine c_cond_t rfl ?_
        refine c_seq ?_
        refine c_region ?_
        refine AOps.st 6 rfl rfl rfl (op_assign rfl rfl ?_)
        refine AOps.nil ?_
        refine go_code ?_
        refine c_ret ?_
        exact out_tmp rfl rfl (Le.refl _) (by first | exact MLe.none _ | exact MLe.refl _ | (repeat' (first | exact MLe.nil | exact MLe.refl _ | refine MLe.cons _ ?_ | refine MLe.drop _ ?_))) ⟨⟨_, iff_f (map_ne f hx hy g30), rfl⟩, rfl⟩
  · refine c_cond_t rfl ?_
    refine c_seq ?_
    refine c_region ?_
    refine AOps.st 6 rfl rfl rfl (op_assign rfl rfl ?_)
    refine AOps.nil ?_
    refine go_code ?_
    refine c_ret ?_
    exact out_tmp rfl rfl (Le.refl _) (by first | exact MLe.none _ | exact MLe.refl _ | (repeat' (first | exact MLe.nil | exact MLe.refl _ | refine MLe.cons _ ?_ | refine MLe.drop _ ?_))) ⟨⟨_, iff_f (map_len_ne f (by omega)), rfl⟩, rfl⟩
set_option maxHeartbeats 4000000 in
set_option maxRecDepth 100000 in
theorem Eqs_Ty {β : Type} (f : Ty → β) (g : FuncId) (xs ys : List Ty) (hg : ∀ x ∈ xs, ∀ y, BCall Try.prog g [.agg x.cells, .agg y.cells] (f x = f y)) : BCall Try.prog 93 [.seq 4 (Ty.cellss xs), .seq 4 (Ty.cellss ys), .clo (.func g) [] []] (xs.map f = ys.map f) := by
  have H := EqF_Ty f g xs ys hg
  refine ACall.enter Try.func93 rfl (by kernel_rfl) rfl (Nat.le_of_ble_eq_true rfl) ?_
  refine c_start ?_
  refine c_seq ?_
  refine c_region ?_
  refine AOps.st 6 rfl rfl rfl (op_assign rfl rfl ?_)
  refine AOps.nil ?_
  refine go_code ?_
  refine c_seq ?_
  refine c_region ?_
  refine AOps.st 7 rfl rfl rfl (op_move rfl rfl ?_)
  refine AOps.st 8 rfl rfl rfl (op_move rfl rfl ?_)
  refine AOps.st 9 rfl rfl rfl (op_move rfl rfl ?_)
  refine AOps.st 10 rfl rfl rfl (op_callb (xs := [.tmp 7, .tmp 8, .tmp 9]) rfl rfl (H) (by first | exact Les.refl _ | (repeat' (first | exact Les.refl _ | refine Les.cons ?_ ?_ | exact Le.refl _ | exact Le.own _ _ _ | exact Le.nil _ | refine Le.agg ?_))) ?_); intro c10 h10
  refine AOps.st 6 rfl rfl rfl (op_assign rfl rfl ?_)
  refine AOps.nil ?_
  refine go_code ?_
  refine c_ret ?_
  exact out_tmp rfl rfl (Le.refl _) (by first | exact MLe.none _ | exact MLe.refl _ | (repeat' (first | exact MLe.nil | exact MLe.refl _ | refine MLe.cons _ ?_ | refine MLe.drop _ ?_))) ⟨⟨_, h10, rfl⟩, rfl⟩
set_option maxHeartbeats 4000000 in
set_option maxRecDepth 100000 in
theorem EqF_Ex {β : Type} (f : Ex → β) (g : FuncId) (xs ys : List Ex) (hg : ∀ x ∈ xs, ∀ y, BCall Try.prog g [.agg x.cells, .agg y.cells] (f x = f y)) : BCall Try.prog 117 [.seq 11 (Ex.cellss xs), .seq 11 (Ex.cellss ys), .clo (.func g) [] []] (xs.map f = ys.map f) := by
  have hlx := Ex.cellss_len xs
  have hly := Ex.cellss_len ys
  refine ACall.enter Try.func117 rfl (by kernel_rfl) rfl (Nat.le_of_ble_eq_true rfl) ?_
  refine c_start ?_
  refine c_lens (t := 0) rfl (.seq _ _) (fun hmax => ?_)
  refine c_seq ?_
  refine c_region ?_
  refine AOps.st 6 rfl rfl rfl (op_assign rfl rfl ?_)
  refine AOps.nil ?_
  refine go_code ?_
  refine c_seq ?_
  refine c_seq ?_
  refine c_region ?_
  refine AOps.st 10 rfl rfl rfl (op_move rfl rfl ?_)
  refine AOps.st 11 rfl rfl rfl (op_len rfl tu_56 rfl (.seq _ _) (fun n11 => ?_))
  refine AOps.st 12 rfl rfl rfl (op_move rfl rfl ?_)
  refine AOps.st 13 rfl rfl rfl (op_len rfl tu_56 rfl (.seq _ _) (fun n13 => ?_))
  refine AOps.st 14 rfl rfl rfl (op_neq rfl rfl rfl ?_); intro c14 h14
  refine AOps.nil ?_
  refine go_code ?_
  rcases bool_split h14 with ⟨rfl, g14⟩ | ⟨rfl, g14⟩
  · refine c_cond_f rfl ?_
    refine c_skip ?_
    refine go_code ?_
    refine c_seq ?_
    refine c_seq ?_
    refine c_region ?_
    refine AOps.st 15 rfl rfl rfl (op_move rfl rfl ?_)
    refine AOps.st 16 rfl rfl rfl (op_len rfl tu_56 rfl (.seq _ _) (fun n16 => ?_))
    refine AOps.st 17 rfl rfl rfl (op_move rfl rfl ?_)
    refine AOps.nil ?_
    refine go_code ?_
    refine c_block ?_
    refine c_loop (σ := Nat) (fun zz => match zz with | i => [(0, .seq 11 (Ex.cellss xs)), (1, .seq 11 (Ex.cellss ys)), (2, .clo (.func g) [] []), (15, .seq 11 (Ex.cellss xs)), (16, .val (.int .i64 (Ex.cellss xs).length)), (17, .val (.int .i64 i))]) (fun zz => match zz with | i => []) (fun zz => match zz with | i => i ≤ xs.length ∧ Upto (xs.map f) (ys.map f) i) (fun zz => match zz with | i => xs.length - i) (0) ?_ ?_ ?_ ?_
    · exact ⟨by omega, Upto.zero _ _⟩
    · exact (by repeat' (first | exact SLe.nil _ | refine SLe.cons rfl ?_ ?_ | exact Le.refl _ | exact Le.own _ _ _ | exact Le.nil _))
    · exact (by first | exact MLe.none _ | exact MLe.refl _ | (repeat' (first | exact MLe.nil | exact MLe.refl _ | refine MLe.cons _ ?_ | refine MLe.drop _ ?_)))
    rintro i hI
    try dsimp only at hI ⊢
    obtain ⟨hi, hu⟩ := hI
    refine c_seq ?_
    refine c_region ?_
    refine AOps.st 18 rfl rfl rfl (op_lss rfl rfl rfl ?_); intro c18 h18
    refine AOps.nil ?_
    refine go_code ?_
    refine c_seq ?_
    rcases bool_split h18 with ⟨rfl, g18⟩ | ⟨rfl, g18⟩
    · refine c_cond_f rfl ?_
      refine c_exit ?_
      refine x_code ?_
      refine x_lp ?_
      refine x_here ?_
      refine go_code ?_
      refine c_seq ?_
      refine c_region ?_
      refine AOps.st 6 rfl rfl rfl (op_assign rfl rfl ?_)
      refine AOps.nil ?_
      refine go_code ?_
      refine c_ret ?_
      exact out_tmp rfl rfl (Le.refl _) (by first | exact MLe.none _ | exact MLe.refl _ | (repeat' (first | exact MLe.nil | exact MLe.refl _ | refine MLe.cons _ ?_ | refine MLe.drop _ ?_))) ⟨⟨_, iff_t (hu.eq (by simp; omega) (by simp; omega)), rfl⟩, rfl⟩
    · refine c_cond_t rfl ?_
      refine c_skip ?_
      refine go_code ?_
      refine c_seq ?_
      refine c_block ?_
      refine c_seq ?_
      obtain ⟨⟨k1, s1, n1, ⟨tk1, ts1, tn1, tks1⟩, ks1, al1, bs1, p1⟩, hx⟩ := get_some (l := xs) (i := i) (by omega)
      obtain ⟨⟨k2, s2, n2, ⟨tk2, ts2, tn2, tks2⟩, ks2, al2, bs2, p2⟩, hy⟩ := get_some (l := ys) (i := i) (by omega)
      have hcx := Ex.cellss_get hx
      have hcy := Ex.cellss_get hy
      refine c_region ?_
      refine AOps.st 19 rfl rfl rfl (op_move rfl rfl ?_)
      refine AOps.st 20 rfl rfl rfl (op_index rfl te_56 rfl (.seq _ _) rfl rfl (by assumption) ?_)
      first | (refine AOps.st 21 rfl rfl rfl (op_load_m (cs' := [_, _, _, _, _, _, _, _, _, _, _]) (i := 0) rfl ta_60 rfl rfl rfl rfl ?_)) | (refine AOps.st 21 rfl rfl rfl (op_load_m (cs' := [_, _, _, _, _, _, _, _, _, _, _]) (i := 1) rfl ta_60 rfl rfl rfl rfl ?_)) | (refine AOps.st 21 rfl rfl rfl (op_load_m (cs' := [_, _, _, _, _, _, _, _, _, _, _]) (i := 2) rfl ta_60 rfl rfl rfl rfl ?_)) | (refine AOps.st 21 rfl rfl rfl (op_load_m (cs' := [_, _, _, _, _, _, _, _, _, _, _]) (i := 3) rfl ta_60 rfl rfl rfl rfl ?_)) | (refine AOps.st 21 rfl rfl rfl (op_load_m (cs' := [_, _, _, _, _, _, _, _, _, _, _]) (i := 4) rfl ta_60 rfl rfl rfl rfl ?_)) | (refine AOps.st 21 rfl rfl rfl (op_load_m (cs' := [_, _, _, _, _, _, _, _, _, _, _]) (i := 5) rfl ta_60 rfl rfl rfl rfl ?_)) | (refine AOps.st 21 rfl rfl rfl (op_load_c (cs' := [_, _, _, _, _, _, _, _, _, _, _]) rfl ta_60 rfl rfl rfl ?_))
      refine AOps.st 8 rfl rfl rfl (op_alloce (cs' := [_, _, _, _, _, _, _, _, _, _, _]) rfl tz_60 rfl rfl ?_); intro b8
      refine AOps.st 7 rfl rfl rfl (op_assign rfl rfl ?_)
      refine AOps.st0 rfl rfl (op_store (cs' := [_, _, _, _, _, _, _, _, _, _, _]) (i := 0) rfl ts_60 rfl rfl rfl rfl rfl (Nat.le_of_ble_eq_true rfl) rfl ?_)
      refine AOps.nil ?_
      refine go_code ?_
      refine c_seq ?_
      refine c_region ?_
      refine AOps.st 22 rfl rfl rfl (op_move rfl rfl ?_)
      refine AOps.st 23 rfl rfl rfl (op_move rfl rfl ?_)
      refine AOps.st 24 rfl rfl rfl (op_index rfl te_56 rfl (.seq _ _) rfl rfl (by assumption) ?_)
      first | (refine AOps.st 25 rfl rfl rfl (op_load_m (cs' := [_, _, _, _, _, _, _, _, _, _, _]) (i := 0) rfl ta_60 rfl rfl rfl rfl ?_)) | (refine AOps.st 25 rfl rfl rfl (op_load_m (cs' := [_, _, _, _, _, _, _, _, _, _, _]) (i := 1) rfl ta_60 rfl rfl rfl rfl ?_)) | (refine AOps.st 25 rfl rfl rfl (op_load_m (cs' := [_, _, _, _, _, _, _, _, _, _, _]) (i := 2) rfl ta_60 rfl rfl rfl rfl ?_)) | (refine AOps.st 25 rfl rfl rfl (op_load_m (cs' := [_, _, _, _, _, _, _, _, _, _, _]) (i := 3) rfl ta_60 rfl rfl rfl rfl ?_)) | (refine AOps.st 25 rfl rfl rfl (op_load_m (cs' := [_, _, _, _, _, _, _, _, _, _, _]) (i := 4) rfl ta_60 rfl rfl rfl rfl ?_)) | (refine AOps.st 25 rfl rfl rfl (op_load_m (cs' := [_, _, _, _, _, _, _, _, _, _, _]) (i := 5) rfl ta_60 rfl rfl rfl rfl ?_)) | (refine AOps.st 25 rfl rfl rfl (op_load_c (cs' := [_, _, _, _, _, _, _, _, _, _, _]) rfl ta_60 rfl rfl rfl ?_))
      refine AOps.st 9 rfl rfl rfl (op_alloce (cs' := [_, _, _, _, _, _, _, _, _, _, _]) rfl tz_60 rfl rfl ?_); intro b9
      refine AOps.st0 rfl rfl (op_store (cs' := [_, _, _, _, _, _, _, _, _, _, _]) (i := 0) rfl ts_60 rfl rfl rfl rfl rfl (Nat.le_of_ble_eq_true rfl) rfl ?_)
      refine AOps.nil ?_
      refine go_code ?_
      refine c_seq ?_
      refine c_region ?_
      refine AOps.st 26 rfl rfl rfl (op_move rfl rfl ?_)
      first | (refine AOps.st 27 rfl rfl rfl (op_load_m (cs' := [_, _, _, _, _, _, _, _, _, _, _]) (i := 0) rfl ta_60 rfl rfl rfl rfl ?_)) | (refine AOps.st 27 rfl rfl rfl (op_load_m (cs' := [_, _, _, _, _, _, _, _, _, _, _]) (i := 1) rfl ta_60 rfl rfl rfl rfl ?_))
      refine AOps.st 28 rfl rfl rfl (op_load_m (cs' := [_, _, _, _, _, _, _, _, _, _, _]) (i := 0) rfl ta_60 rfl rfl rfl rfl ?_)
      refine AOps.st 29 rfl rfl rfl (op_callvb (xs := [.tmp 27, .tmp 28]) rfl rfl rfl (hg _ (List.mem_of_getElem? hx) ⟨k2, s2, n2, ⟨tk2, ts2, tn2, tks2⟩, ks2, al2, bs2, p2⟩) (by first | exact Les.refl _ | (repeat' (first | exact Les.refl _ | refine Les.cons ?_ ?_ | exact Le.refl _ | exact Le.own _ _ _ | exact Le.nil _ | refine Le.agg ?_))) ?_); intro c29 h29
      refine AOps.st 30 rfl rfl rfl (op_notc rfl rfl ?_); intro c30 h30
      try replace h30 := nott h30 h29
      refine AOps.nil ?_
      refine go_code ?_
      rcases bool_split h30 with ⟨rfl, g30⟩ | ⟨rfl, g30⟩
      · refine c_cond_f rfl ?_
        refine c_skip ?_
        refine go_blk ?_
        refine go_code ?_
        refine c_region ?_
        refine AOps.st 31 rfl rfl rfl (op_add rfl rfl rfl (IntWalk.i64_in _ (by omega)) ?_)
        refine AOps.st 17 rfl rfl rfl (op_move rfl rfl ?_)
        refine AOps.nil ?_
        refine go_lp ?_
        exact ⟨i + 1, ⟨by omega, upto_map f hu hx hy (Classical.not_not.1 g30)⟩, by simp; omega, (by repeat' (first | exact SLe.nil _ | refine SLe.cons rfl ?_ ?_ | exact Le.refl _ | exact Le.own _ _ _ | exact Le.nil _)), (by first | exact MLe.none _ | exact MLe.refl _ | (repeat' (first | exact MLe.nil | exact MLe.refl _ | refine MLe.cons _ ?_ | refine MLe.drop _ ?_)))⟩
      · refine c_cond_t rfl ?_
        refine c_seq ?_
        refine c_region ?_
        refine AOps.st 6 rfl rfl rfl (op_assign rfl rfl ?_)
        refine AOps.nil ?_
        refine go_code ?_
        refine c_ret ?_
        exact out_tmp rfl rfl (Le.refl _) (by first | exact MLe.none _ | exact MLe.refl _ | (repeat' (first | exact MLe.nil | exact MLe.refl _ | refine MLe.cons _ ?_ | refine MLe.drop _ ?_))) ⟨⟨_, iff_f (map_ne f hx hy g30), rfl⟩, rfl⟩
  · refine c_cond_t rfl ?_
    refine c_seq ?_
    refine c_region ?_
    refine AOps.st 6 rfl rfl rfl (op_assign rfl rfl ?_)
    refine AOps.nil ?_
    refine go_code ?_
    refine c_ret ?_
    exact out_tmp rfl rfl (Le.refl _) (by first | exact MLe.none _ | exact MLe.refl _ | (repeat' (first | exact MLe.nil | exact MLe.refl _ | refine MLe.cons _ ?_ | refine MLe.drop _ ?_))) ⟨⟨_, iff_f (map_len_ne f (by omega)), rfl⟩, rfl⟩
set_option maxHeartbeats 4000000 in
set_option maxRecDepth 100000 in
theorem Eqs_Ex {β : Type} (f : Ex → β) (g : FuncId) (xs ys : List Ex) (hg : ∀ x ∈ xs, ∀ y, BCall Try.prog g [.agg x.cells, .agg y.cells] (f x = f y)) : BCall Try.prog 88 [.seq 11 (Ex.cellss xs), .seq 11 (Ex.cellss ys), .clo (.func g) [] []] (xs.map f = ys.map f) := by
  have H := EqF_Ex f g xs ys hg
  refine ACall.enter Try.func88 rfl (by kernel_rfl) rfl (Nat.le_of_ble_eq_true rfl) ?_
  refine c_start ?_
  refine c_seq ?_
  refine c_region ?_
  refine AOps.st 6 rfl rfl rfl (op_assign rfl rfl ?_)
  refine AOps.nil ?_
  refine go_code ?_
  refine c_seq ?_
  refine c_region ?_
  refine AOps.st 7 rfl rfl rfl (op_move rfl rfl ?_)
  refine AOps.st 8 rfl rfl rfl (op_move rfl rfl ?_)
  refine AOps.st 9 rfl rfl rfl (op_move rfl rfl ?_)
  refine AOps.st 10 rfl rfl rfl (op_callb (xs := [.tmp 7, .tmp 8, .tmp 9]) rfl rfl (H) (by first | exact Les.refl _ | (repeat' (first | exact Les.refl _ | refine Les.cons ?_ ?_ | exact Le.refl _ | exact Le.own _ _ _ | exact Le.nil _ | refine Le.agg ?_))) ?_); intro c10 h10
  refine AOps.st 6 rfl rfl rfl (op_assign rfl rfl ?_)
  refine AOps.nil ?_
  refine go_code ?_
  refine c_ret ?_
  exact out_tmp rfl rfl (Le.refl _) (by first | exact MLe.none _ | exact MLe.refl _ | (repeat' (first | exact MLe.nil | exact MLe.refl _ | refine MLe.cons _ ?_ | refine MLe.drop _ ?_))) ⟨⟨_, h10, rfl⟩, rfl⟩
set_option maxHeartbeats 4000000 in
set_option maxRecDepth 100000 in
theorem EqF_Bi {β : Type} (f : Bi → β) (g : FuncId) (xs ys : List Bi) (hg : ∀ x ∈ xs, ∀ y, BCall Try.prog g [.agg x.cells, .agg y.cells] (f x = f y)) : BCall Try.prog 118 [.seq 13 (Bi.cellss xs), .seq 13 (Bi.cellss ys), .clo (.func g) [] []] (xs.map f = ys.map f) := by
  have hlx := Bi.cellss_len xs
  have hly := Bi.cellss_len ys
  refine ACall.enter Try.func118 rfl (by kernel_rfl) rfl (Nat.le_of_ble_eq_true rfl) ?_
  refine c_start ?_
  refine c_lens (t := 0) rfl (.seq _ _) (fun hmax => ?_)
  refine c_seq ?_
  refine c_region ?_
  refine AOps.st 6 rfl rfl rfl (op_assign rfl rfl ?_)
  refine AOps.nil ?_
  refine go_code ?_
  refine c_seq ?_
  refine c_seq ?_
  refine c_region ?_
  refine AOps.st 10 rfl rfl rfl (op_move rfl rfl ?_)
  refine AOps.st 11 rfl rfl rfl (op_len rfl tu_58 rfl (.seq _ _) (fun n11 => ?_))
  refine AOps.st 12 rfl rfl rfl (op_move rfl rfl ?_)
  refine AOps.st 13 rfl rfl rfl (op_len rfl tu_58 rfl (.seq _ _) (fun n13 => ?_))
  refine AOps.st 14 rfl rfl rfl (op_neq rfl rfl rfl ?_); intro c14 h14
  refine AOps.nil ?_
  refine go_code ?_
  rcases bool_split h14 with ⟨rfl, g14⟩ | ⟨rfl, g14⟩
  · refine c_cond_f rfl ?_
    refine c_skip ?_
    refine go_code ?_
    refine c_seq ?_
    refine c_seq ?_
    refine c_region ?_
    refine AOps.st 15 rfl rfl rfl (op_move rfl rfl ?_)
    refine AOps.st 16 rfl rfl rfl (op_len rfl tu_58 rfl (.seq _ _) (fun n16 => ?_))
    refine AOps.st 17 rfl rfl rfl (op_move rfl rfl ?_)
    refine AOps.nil ?_
    refine go_code ?_
    refine c_block ?_
    refine c_loop (σ := Nat) (fun zz => match zz with | i => [(0, .seq 13 (Bi.cellss xs)), (1, .seq 13 (Bi.cellss ys)), (2, .clo (.func g) [] []), (15, .seq 13 (Bi.cellss xs)), (16, .val (.int .i64 (Bi.cellss xs).length)), (17, .val (.int .i64 i))]) (fun zz => match zz with | i => []) (fun zz => match zz with | i => i ≤ xs.length ∧ Upto (xs.map f) (ys.map f) i) (fun zz => match zz with | i => xs.length - i) (0) ?_ ?_ ?_ ?_
    · exact ⟨by omega, Upto.zero _ _⟩
    · exact (by repeat' (first | exact SLe.nil _ | refine SLe.cons rfl ?_ ?_ | exact Le.refl _ | exact Le.own _ _ _ | exact Le.nil _))
    · exact (by first | exact MLe.none _ | exact MLe.refl _ | (repeat' (first | exact MLe.nil | exact MLe.refl _ | refine MLe.cons _ ?_ | refine MLe.drop _ ?_)))
    rintro i hI
    try dsimp only at hI ⊢
    obtain ⟨hi, hu⟩ := hI
    refine c_seq ?_
    refine c_region ?_
    refine AOps.st 18 rfl rfl rfl (op_lss rfl rfl rfl ?_); intro c18 h18
    refine AOps.nil ?_
    refine go_code ?_
    refine c_seq ?_
    rcases bool_split h18 with ⟨rfl, g18⟩ | ⟨rfl, g18⟩
    · refine c_cond_f rfl ?_
      refine c_exit ?_
      refine x_code ?_
      refine x_lp ?_
      refine x_here ?_
      refine go_code ?_
      refine c_seq ?_
      refine c_region ?_
      refine AOps.st 6 rfl rfl rfl (op_assign rfl rfl ?_)
      refine AOps.nil ?_
      refine go_code ?_
      refine c_ret ?_
      exact out_tmp rfl rfl (Le.refl _) (by first | exact MLe.none _ | exact MLe.refl _ | (repeat' (first | exact MLe.nil | exact MLe.refl _ | refine MLe.cons _ ?_ | refine MLe.drop _ ?_))) ⟨⟨_, iff_t (hu.eq (by simp; omega) (by simp; omega)), rfl⟩, rfl⟩
    · refine c_cond_t rfl ?_
      refine c_skip ?_
      refine go_code ?_
      refine c_seq ?_
      refine c_block ?_
      refine c_seq ?_
      obtain ⟨⟨bs1, ⟨k1, s1, n1, ⟨tk1, ts1, tn1, tks1⟩, ks1, al1, bb1, p1⟩, bp1⟩, hx⟩ := get_some (l := xs) (i := i) (by omega)
      obtain ⟨⟨bs2, ⟨k2, s2, n2, ⟨tk2, ts2, tn2, tks2⟩, ks2, al2, bb2, p2⟩, bp2⟩, hy⟩ := get_some (l := ys) (i := i) (by omega)
      have hcx := Bi.cellss_get hx
      have hcy := Bi.cellss_get hy
      refine c_region ?_
      refine AOps.st 19 rfl rfl rfl (op_move rfl rfl ?_)
      refine AOps.st 20 rfl rfl rfl (op_index rfl te_58 rfl (.seq _ _) rfl rfl (by assumption) ?_)
      first | (refine AOps.st 21 rfl rfl rfl (op_load_m (cs' := [_, _, _, _, _, _, _, _, _, _, _, _, _]) (i := 0) rfl ta_74 rfl rfl rfl rfl ?_)) | (refine AOps.st 21 rfl rfl rfl (op_load_m (cs' := [_, _, _, _, _, _, _, _, _, _, _, _, _]) (i := 1) rfl ta_74 rfl rfl rfl rfl ?_)) | (refine AOps.st 21 rfl rfl rfl (op_load_m (cs' := [_, _, _, _, _, _, _, _, _, _, _, _, _]) (i := 2) rfl ta_74 rfl rfl rfl rfl ?_)) | (refine AOps.st 21 rfl rfl rfl (op_load_m (cs' := [_, _, _, _, _, _, _, _, _, _, _, _, _]) (i := 3) rfl ta_74 rfl rfl rfl rfl ?_)) | (refine AOps.st 21 rfl rfl rfl (op_load_m (cs' := [_, _, _, _, _, _, _, _, _, _, _, _, _]) (i := 4) rfl ta_74 rfl rfl rfl rfl ?_)) | (refine AOps.st 21 rfl rfl rfl (op_load_m (cs' := [_, _, _, _, _, _, _, _, _, _, _, _, _]) (i := 5) rfl ta_74 rfl rfl rfl rfl ?_)) | (refine AOps.st 21 rfl rfl rfl (op_load_c (cs' := [_, _, _, _, _, _, _, _, _, _, _, _, _]) rfl ta_74 rfl rfl rfl ?_))
      refine AOps.st 8 rfl rfl rfl (op_alloce (cs' := [_, _, _, _, _, _, _, _, _, _, _, _, _]) rfl tz_74 rfl rfl ?_); intro b8
      refine AOps.st 7 rfl rfl rfl (op_assign rfl rfl ?_)
      refine AOps.st0 rfl rfl (op_store (cs' := [_, _, _, _, _, _, _, _, _, _, _, _, _]) (i := 0) rfl ts_74 rfl rfl rfl rfl rfl (Nat.le_of_ble_eq_true rfl) rfl ?_)
      refine AOps.nil ?_
      refine go_code ?_
      refine c_seq ?_
      refine c_region ?_
      refine AOps.st 22 rfl rfl rfl (op_move rfl rfl ?_)
      refine AOps.st 23 rfl rfl rfl (op_move rfl rfl ?_)
      refine AOps.st 24 rfl rfl rfl (op_index rfl te_58 rfl (.seq _ _) rfl rfl (by assumption) ?_)
      first | (refine AOps.st 25 rfl rfl rfl (op_load_m (cs' := [_, _, _, _, _, _, _, _, _, _, _, _, _]) (i := 0) rfl ta_74 rfl rfl rfl rfl ?_)) | (refine AOps.st 25 rfl rfl rfl (op_load_m (cs' := [_, _, _, _, _, _, _, _, _, _, _, _, _]) (i := 1) rfl ta_74 rfl rfl rfl rfl ?_)) | (refine AOps.st 25 rfl rfl rfl (op_load_m (cs' := [_, _, _, _, _, _, _, _, _, _, _, _, _]) (i := 2) rfl ta_74 rfl rfl rfl rfl ?_)) | (refine AOps.st 25 rfl rfl rfl (op_load_m (cs' := [_, _, _, _, _, _, _, _, _, _, _, _, _]) (i := 3) rfl ta_74 rfl rfl rfl rfl ?_)) | (refine AOps.st 25 rfl rfl rfl (op_load_m (cs' := [_, _, _, _, _, _, _, _, _, _, _, _, _]) (i := 4) rfl ta_74 rfl rfl rfl rfl ?_)) | (refine AOps.st 25 rfl rfl rfl (op_load_m (cs' := [_, _, _, _, _, _, _, _, _, _, _, _, _]) (i := 5) rfl ta_74 rfl rfl rfl rfl ?_)) | (refine AOps.st 25 rfl rfl rfl (op_load_c (cs' := [_, _, _, _, _, _, _, _, _, _, _, _, _]) rfl ta_74 rfl rfl rfl ?_))
      refine AOps.st 9 rfl rfl rfl (op_alloce (cs' := [_, _, _, _, _, _, _, _, _, _, _, _, _]) rfl tz_74 rfl rfl ?_); intro b9
      refine AOps.st0 rfl rfl (op_store (cs' := [_, _, _, _, _, _, _, _, _, _, _, _, _]) (i := 0) rfl ts_74 rfl rfl rfl rfl rfl (Nat.le_of_ble_eq_true rfl) rfl ?_)
      refine AOps.nil ?_
      refine go_code ?_
      refine c_seq ?_
      refine c_region ?_
      refine AOps.st 26 rfl rfl rfl (op_move rfl rfl ?_)
      first | (refine AOps.st 27 rfl rfl rfl (op_load_m (cs' := [_, _, _, _, _, _, _, _, _, _, _, _, _]) (i := 0) rfl ta_74 rfl rfl rfl rfl ?_)) | (refine AOps.st 27 rfl rfl rfl (op_load_m (cs' := [_, _, _, _, _, _, _, _, _, _, _, _, _]) (i := 1) rfl ta_74 rfl rfl rfl rfl ?_))
      refine AOps.st 28 rfl rfl rfl (op_load_m (cs' := [_, _, _, _, _, _, _, _, _, _, _, _, _]) (i := 0) rfl ta_74 rfl rfl rfl rfl ?_)
      refine AOps.st 29 rfl rfl rfl (op_callvb (xs := [.tmp 27, .tmp 28]) rfl rfl rfl (hg _ (List.mem_of_getElem? hx) ⟨bs2, ⟨k2, s2, n2, ⟨tk2, ts2, tn2, tks2⟩, ks2, al2, bb2, p2⟩, bp2⟩) (by first | exact Les.refl _ | (repeat' (first | exact Les.refl _ | refine Les.cons ?_ ?_ | exact Le.refl _ | exact Le.own _ _ _ | exact Le.nil _ | refine Le.agg ?_))) ?_); intro c29 h29
      refine AOps.st 30 rfl rfl rfl (op_notc rfl rfl ?_); intro c30 h30
      try replace h30 := nott h30 h29
      refine AOps.nil ?_
      refine go_code ?_
      rcases bool_split h30 with ⟨rfl, g30⟩ | ⟨rfl, g30⟩
      · refine c_cond_f rfl ?_
        refine c_skip ?_
        refine go_blk ?_
        refine go_code ?_
        refine c_region ?_
        refine AOps.st 31 rfl rfl rfl (op_add rfl rfl rfl (IntWalk.i64_in _ (by omega)) ?_)
        refine AOps.st 17 rfl rfl rfl (op_move rfl rfl ?_)
        refine AOps.nil ?_
        refine go_lp ?_
        exact ⟨i + 1, ⟨by omega, upto_map f hu hx hy (Classical.not_not.1 g30)⟩, by simp; omega, (by repeat' (first | exact SLe.nil _ | refine SLe.cons rfl ?_ ?_ | exact Le.refl _ | exact Le.own _ _ _ | exact Le.nil _)), (by first | exact MLe.none _ | exact MLe.refl _ | (repeat' (first | exact MLe.nil | exact MLe.refl _ | refine MLe.cons _ ?_ | refine MLe.drop _ ?_)))⟩
      · refine c_cond_t rfl ?_
        refine c_seq ?_
        refine c_region ?_
        refine AOps.st 6 rfl rfl rfl (op_assign rfl rfl ?_)
        refine AOps.nil ?_
        refine go_code ?_
        refine c_ret ?_
        exact out_tmp rfl rfl (Le.refl _) (by first | exact MLe.none _ | exact MLe.refl _ | (repeat' (first | exact MLe.nil | exact MLe.refl _ | refine MLe.cons _ ?_ | refine MLe.drop _ ?_))) ⟨⟨_, iff_f (map_ne f hx hy g30), rfl⟩, rfl⟩
  · refine c_cond_t rfl ?_
    refine c_seq ?_
    refine c_region ?_
    refine AOps.st 6 rfl rfl rfl (op_assign rfl rfl ?_)
    refine AOps.nil ?_
    refine go_code ?_
    refine c_ret ?_
    exact out_tmp rfl rfl (Le.refl _) (by first | exact MLe.none _ | exact MLe.refl _ | (repeat' (first | exact MLe.nil | exact MLe.refl _ | refine MLe.cons _ ?_ | refine MLe.drop _ ?_))) ⟨⟨_, iff_f (map_len_ne f (by omega)), rfl⟩, rfl⟩
set_option maxHeartbeats 4000000 in
set_option maxRecDepth 100000 in
theorem Eqs_Bi {β : Type} (f : Bi → β) (g : FuncId) (xs ys : List Bi) (hg : ∀ x ∈ xs, ∀ y, BCall Try.prog g [.agg x.cells, .agg y.cells] (f x = f y)) : BCall Try.prog 89 [.seq 13 (Bi.cellss xs), .seq 13 (Bi.cellss ys), .clo (.func g) [] []] (xs.map f = ys.map f) := by
  have H := EqF_Bi f g xs ys hg
  refine ACall.enter Try.func89 rfl (by kernel_rfl) rfl (Nat.le_of_ble_eq_true rfl) ?_
  refine c_start ?_
  refine c_seq ?_
  refine c_region ?_
  refine AOps.st 6 rfl rfl rfl (op_assign rfl rfl ?_)
  refine AOps.nil ?_
  refine go_code ?_
  refine c_seq ?_
  refine c_region ?_
  refine AOps.st 7 rfl rfl rfl (op_move rfl rfl ?_)
  refine AOps.st 8 rfl rfl rfl (op_move rfl rfl ?_)
  refine AOps.st 9 rfl rfl rfl (op_move rfl rfl ?_)
  refine AOps.st 10 rfl rfl rfl (op_callb (xs := [.tmp 7, .tmp 8, .tmp 9]) rfl rfl (H) (by first | exact Les.refl _ | (repeat' (first | exact Les.refl _ | refine Les.cons ?_ ?_ | exact Le.refl _ | exact Le.own _ _ _ | exact Le.nil _ | refine Le.agg ?_))) ?_); intro c10 h10
  refine AOps.st 6 rfl rfl rfl (op_assign rfl rfl ?_)
  refine AOps.nil ?_
  refine go_code ?_
  refine c_ret ?_
  exact out_tmp rfl rfl (Le.refl _) (by first | exact MLe.none _ | exact MLe.refl _ | (repeat' (first | exact MLe.nil | exact MLe.refl _ | refine MLe.cons _ ?_ | refine MLe.drop _ ?_))) ⟨⟨_, h10, rfl⟩, rfl⟩
set_option maxHeartbeats 4000000 in
set_option maxRecDepth 100000 in
theorem EqF_Al {β : Type} (f : Al → β) (g : FuncId) (xs ys : List Al) (hg : ∀ x ∈ xs, ∀ y, BCall Try.prog g [.agg x.cells, .agg y.cells] (f x = f y)) : BCall Try.prog 119 [.seq 16 (Al.cellss xs), .seq 16 (Al.cellss ys), .clo (.func g) [] []] (xs.map f = ys.map f) := by
  have hlx := Al.cellss_len xs
  have hly := Al.cellss_len ys
  refine ACall.enter Try.func119 rfl (by kernel_rfl) rfl (Nat.le_of_ble_eq_true rfl) ?_
  refine c_start ?_
  refine c_lens (t := 0) rfl (.seq _ _) (fun hmax => ?_)
  refine c_seq ?_
  refine c_region ?_
  refine AOps.st 6 rfl rfl rfl (op_assign rfl rfl ?_)
  refine AOps.nil ?_
  refine go_code ?_
  refine c_seq ?_
  refine c_seq ?_
  refine c_region ?_
  refine AOps.st 10 rfl rfl rfl (op_move rfl rfl ?_)
  refine AOps.st 11 rfl rfl rfl (op_len rfl tu_57 rfl (.seq _ _) (fun n11 => ?_))
  refine AOps.st 12 rfl rfl rfl (op_move rfl rfl ?_)
  refine AOps.st 13 rfl rfl rfl (op_len rfl tu_57 rfl (.seq _ _) (fun n13 => ?_))
  refine AOps.st 14 rfl rfl rfl (op_neq rfl rfl rfl ?_); intro c14 h14
  refine AOps.nil ?_
  refine go_code ?_
  rcases bool_split h14 with ⟨rfl, g14⟩ | ⟨rfl, g14⟩
  · refine c_cond_f rfl ?_
    refine c_skip ?_
    refine go_code ?_
    refine c_seq ?_
    refine c_seq ?_
    refine c_region ?_
    refine AOps.st 15 rfl rfl rfl (op_move rfl rfl ?_)
    refine AOps.st 16 rfl rfl rfl (op_len rfl tu_57 rfl (.seq _ _) (fun n16 => ?_))
    refine AOps.st 17 rfl rfl rfl (op_move rfl rfl ?_)
    refine AOps.nil ?_
    refine go_code ?_
    refine c_block ?_
    refine c_loop (σ := Nat) (fun zz => match zz with | i => [(0, .seq 16 (Al.cellss xs)), (1, .seq 16 (Al.cellss ys)), (2, .clo (.func g) [] []), (15, .seq 16 (Al.cellss xs)), (16, .val (.int .i64 (Al.cellss xs).length)), (17, .val (.int .i64 i))]) (fun zz => match zz with | i => []) (fun zz => match zz with | i => i ≤ xs.length ∧ Upto (xs.map f) (ys.map f) i) (fun zz => match zz with | i => xs.length - i) (0) ?_ ?_ ?_ ?_
    · exact ⟨by omega, Upto.zero _ _⟩
    · exact (by repeat' (first | exact SLe.nil _ | refine SLe.cons rfl ?_ ?_ | exact Le.refl _ | exact Le.own _ _ _ | exact Le.nil _))
    · exact (by first | exact MLe.none _ | exact MLe.refl _ | (repeat' (first | exact MLe.nil | exact MLe.refl _ | refine MLe.cons _ ?_ | refine MLe.drop _ ?_)))
    rintro i hI
    try dsimp only at hI ⊢
    obtain ⟨hi, hu⟩ := hI
    refine c_seq ?_
    refine c_region ?_
    refine AOps.st 18 rfl rfl rfl (op_lss rfl rfl rfl ?_); intro c18 h18
    refine AOps.nil ?_
    refine go_code ?_
    refine c_seq ?_
    rcases bool_split h18 with ⟨rfl, g18⟩ | ⟨rfl, g18⟩
    · refine c_cond_f rfl ?_
      refine c_exit ?_
      refine x_code ?_
      refine x_lp ?_
      refine x_here ?_
      refine go_code ?_
      refine c_seq ?_
      refine c_region ?_
      refine AOps.st 6 rfl rfl rfl (op_assign rfl rfl ?_)
      refine AOps.nil ?_
      refine go_code ?_
      refine c_ret ?_
      exact out_tmp rfl rfl (Le.refl _) (by first | exact MLe.none _ | exact MLe.refl _ | (repeat' (first | exact MLe.nil | exact MLe.refl _ | refine MLe.cons _ ?_ | refine MLe.drop _ ?_))) ⟨⟨_, iff_t (hu.eq (by simp; omega) (by simp; omega)), rfl⟩, rfl⟩
    · refine c_cond_t rfl ?_
      refine c_skip ?_
      refine go_code ?_
      refine c_seq ?_
      refine c_block ?_
      refine c_seq ?_
      obtain ⟨⟨⟨qk1, qs1, qn1, qks1, qp1⟩, ⟨k1, s1, n1, ⟨tk1, ts1, tn1, tks1⟩, ks1, al1, bb1, p1⟩⟩, hx⟩ := get_some (l := xs) (i := i) (by omega)
      obtain ⟨⟨⟨qk2, qs2, qn2, qks2, qp2⟩, ⟨k2, s2, n2, ⟨tk2, ts2, tn2, tks2⟩, ks2, al2, bb2, p2⟩⟩, hy⟩ := get_some (l := ys) (i := i) (by omega)
      have hcx := Al.cellss_get hx
      have hcy := Al.cellss_get hy
      refine c_region ?_
      refine AOps.st 19 rfl rfl rfl (op_move rfl rfl ?_)
      refine AOps.st 20 rfl rfl rfl (op_index rfl te_57 rfl (.seq _ _) rfl rfl (by assumption) ?_)
      first | (refine AOps.st 21 rfl rfl rfl (op_load_m (cs' := [_, _, _, _, _, _, _, _, _, _, _, _, _, _, _, _]) (i := 0) rfl ta_70 rfl rfl rfl rfl ?_)) | (refine AOps.st 21 rfl rfl rfl (op_load_m (cs' := [_, _, _, _, _, _, _, _, _, _, _, _, _, _, _, _]) (i := 1) rfl ta_70 rfl rfl rfl rfl ?_)) | (refine AOps.st 21 rfl rfl rfl (op_load_m (cs' := [_, _, _, _, _, _, _, _, _, _, _, _, _, _, _, _]) (i := 2) rfl ta_70 rfl rfl rfl rfl ?_)) | (refine AOps.st 21 rfl rfl rfl (op_load_m (cs' := [_, _, _, _, _, _, _, _, _, _, _, _, _, _, _, _]) (i := 3) rfl ta_70 rfl rfl rfl rfl ?_)) | (refine AOps.st 21 rfl rfl rfl (op_load_m (cs' := [_, _, _, _, _, _, _, _, _, _, _, _, _, _, _, _]) (i := 4) rfl ta_70 rfl rfl rfl rfl ?_)) | (refine AOps.st 21 rfl rfl rfl (op_load_m (cs' := [_, _, _, _, _, _, _, _, _, _, _, _, _, _, _, _]) (i := 5) rfl ta_70 rfl rfl rfl rfl ?_)) | (refine AOps.st 21 rfl rfl rfl (op_load_c (cs' := [_, _, _, _, _, _, _, _, _, _, _, _, _, _, _, _]) rfl ta_70 rfl rfl rfl ?_))
      refine AOps.st 8 rfl rfl rfl (op_alloce (cs' := [_, _, _, _, _, _, _, _, _, _, _, _, _, _, _, _]) rfl tz_70 rfl rfl ?_); intro b8
      refine AOps.st 7 rfl rfl rfl (op_assign rfl rfl ?_)
      refine AOps.st0 rfl rfl (op_store (cs' := [_, _, _, _, _, _, _, _, _, _, _, _, _, _, _, _]) (i := 0) rfl ts_70 rfl rfl rfl rfl rfl (Nat.le_of_ble_eq_true rfl) rfl ?_)
      refine AOps.nil ?_
      refine go_code ?_
      refine c_seq ?_
      refine c_region ?_
      refine AOps.st 22 rfl rfl rfl (op_move rfl rfl ?_)
      refine AOps.st 23 rfl rfl rfl (op_move rfl rfl ?_)
      refine AOps.st 24 rfl rfl rfl (op_index rfl te_57 rfl (.seq _ _) rfl rfl (by assumption) ?_)
      first | (refine AOps.st 25 rfl rfl rfl (op_load_m (cs' := [_, _, _, _, _, _, _, _, _, _, _, _, _, _, _, _]) (i := 0) rfl ta_70 rfl rfl rfl rfl ?_)) | (refine AOps.st 25 rfl rfl rfl (op_load_m (cs' := [_, _, _, _, _, _, _, _, _, _, _, _, _, _, _, _]) (i := 1) rfl ta_70 rfl rfl rfl rfl ?_)) | (refine AOps.st 25 rfl rfl rfl (op_load_m (cs' := [_, _, _, _, _, _, _, _, _, _, _, _, _, _, _, _]) (i := 2) rfl ta_70 rfl rfl rfl rfl ?_)) | (refine AOps.st 25 rfl rfl rfl (op_load_m (cs' := [_, _, _, _, _, _, _, _, _, _, _, _, _, _, _, _]) (i := 3) rfl ta_70 rfl rfl rfl rfl ?_)) | (refine AOps.st 25 rfl rfl rfl (op_load_m (cs' := [_, _, _, _, _, _, _, _, _, _, _, _, _, _, _, _]) (i := 4) rfl ta_70 rfl rfl rfl rfl ?_)) | (refine AOps.st 25 rfl rfl rfl (op_load_m (cs' := [_, _, _, _, _, _, _, _, _, _, _, _, _, _, _, _]) (i := 5) rfl ta_70 rfl rfl rfl rfl ?_)) | (refine AOps.st 25 rfl rfl rfl (op_load_c (cs' := [_, _, _, _, _, _, _, _, _, _, _, _, _, _, _, _]) rfl ta_70 rfl rfl rfl ?_))
      refine AOps.st 9 rfl rfl rfl (op_alloce (cs' := [_, _, _, _, _, _, _, _, _, _, _, _, _, _, _, _]) rfl tz_70 rfl rfl ?_); intro b9
      refine AOps.st0 rfl rfl (op_store (cs' := [_, _, _, _, _, _, _, _, _, _, _, _, _, _, _, _]) (i := 0) rfl ts_70 rfl rfl rfl rfl rfl (Nat.le_of_ble_eq_true rfl) rfl ?_)
      refine AOps.nil ?_
      refine go_code ?_
      refine c_seq ?_
      refine c_region ?_
      refine AOps.st 26 rfl rfl rfl (op_move rfl rfl ?_)
      first | (refine AOps.st 27 rfl rfl rfl (op_load_m (cs' := [_, _, _, _, _, _, _, _, _, _, _, _, _, _, _, _]) (i := 0) rfl ta_70 rfl rfl rfl rfl ?_)) | (refine AOps.st 27 rfl rfl rfl (op_load_m (cs' := [_, _, _, _, _, _, _, _, _, _, _, _, _, _, _, _]) (i := 1) rfl ta_70 rfl rfl rfl rfl ?_))
      refine AOps.st 28 rfl rfl rfl (op_load_m (cs' := [_, _, _, _, _, _, _, _, _, _, _, _, _, _, _, _]) (i := 0) rfl ta_70 rfl rfl rfl rfl ?_)
      refine AOps.st 29 rfl rfl rfl (op_callvb (xs := [.tmp 27, .tmp 28]) rfl rfl rfl (hg _ (List.mem_of_getElem? hx) ⟨⟨qk2, qs2, qn2, qks2, qp2⟩, ⟨k2, s2, n2, ⟨tk2, ts2, tn2, tks2⟩, ks2, al2, bb2, p2⟩⟩) (by first | exact Les.refl _ | (repeat' (first | exact Les.refl _ | refine Les.cons ?_ ?_ | exact Le.refl _ | exact Le.own _ _ _ | exact Le.nil _ | refine Le.agg ?_))) ?_); intro c29 h29
      refine AOps.st 30 rfl rfl rfl (op_notc rfl rfl ?_); intro c30 h30
      try replace h30 := nott h30 h29
      refine AOps.nil ?_
      refine go_code ?_
      rcases bool_split h30 with ⟨rfl, g30⟩ | ⟨rfl, g30⟩
      · refine c_cond_f rfl ?_
        refine c_skip ?_
        refine go_blk ?_
        refine go_code ?_
        refine c_region ?_
        refine AOps.st 31 rfl rfl rfl (op_add rfl rfl rfl (IntWalk.i64_in _ (by omega)) ?_)
        refine AOps.st 17 rfl rfl rfl (op_move rfl rfl ?_)
        refine AOps.nil ?_
        refine go_lp ?_
        exact ⟨i + 1, ⟨by omega, upto_map f hu hx hy (Classical.not_not.1 g30)⟩, by simp; omega, (by repeat' (first | exact SLe.nil _ | refine SLe.cons rfl ?_ ?_ | exact Le.refl _ | exact Le.own _ _ _ | exact Le.nil _)), (by first | exact MLe.none _ | exact MLe.refl _ | (repeat' (first | exact MLe.nil | exact MLe.refl _ | refine MLe.cons _ ?_ | refine MLe.drop _ ?_)))⟩
      · refine c_cond_t rfl ?_
        refine c_seq ?_
        refine c_region ?_
        refine AOps.st 6 rfl rfl rfl (op_assign rfl rfl ?_)
        refine AOps.nil ?_
        refine go_code ?_
        refine c_ret ?_
        exact out_tmp rfl rfl (Le.refl _) (by first | exact MLe.none _ | exact MLe.refl _ | (repeat' (first | exact MLe.nil | exact MLe.refl _ | refine MLe.cons _ ?_ | refine MLe.drop _ ?_))) ⟨⟨_, iff_f (map_ne f hx hy g30), rfl⟩, rfl⟩
  · refine c_cond_t rfl ?_
    refine c_seq ?_
    refine c_region ?_
    refine AOps.st 6 rfl rfl rfl (op_assign rfl rfl ?_)
    refine AOps.nil ?_
    refine go_code ?_
    refine c_ret ?_
    exact out_tmp rfl rfl (Le.refl _) (by first | exact MLe.none _ | exact MLe.refl _ | (repeat' (first | exact MLe.nil | exact MLe.refl _ | refine MLe.cons _ ?_ | refine MLe.drop _ ?_))) ⟨⟨_, iff_f (map_len_ne f (by omega)), rfl⟩, rfl⟩
set_option maxHeartbeats 4000000 in
set_option maxRecDepth 100000 in
theorem Eqs_Al {β : Type} (f : Al → β) (g : FuncId) (xs ys : List Al) (hg : ∀ x ∈ xs, ∀ y, BCall Try.prog g [.agg x.cells, .agg y.cells] (f x = f y)) : BCall Try.prog 91 [.seq 16 (Al.cellss xs), .seq 16 (Al.cellss ys), .clo (.func g) [] []] (xs.map f = ys.map f) := by
  have H := EqF_Al f g xs ys hg
  refine ACall.enter Try.func91 rfl (by kernel_rfl) rfl (Nat.le_of_ble_eq_true rfl) ?_
  refine c_start ?_
  refine c_seq ?_
  refine c_region ?_
  refine AOps.st 6 rfl rfl rfl (op_assign rfl rfl ?_)
  refine AOps.nil ?_
  refine go_code ?_
  refine c_seq ?_
  refine c_region ?_
  refine AOps.st 7 rfl rfl rfl (op_move rfl rfl ?_)
  refine AOps.st 8 rfl rfl rfl (op_move rfl rfl ?_)
  refine AOps.st 9 rfl rfl rfl (op_move rfl rfl ?_)
  refine AOps.st 10 rfl rfl rfl (op_callb (xs := [.tmp 7, .tmp 8, .tmp 9]) rfl rfl (H) (by first | exact Les.refl _ | (repeat' (first | exact Les.refl _ | refine Les.cons ?_ ?_ | exact Le.refl _ | exact Le.own _ _ _ | exact Le.nil _ | refine Le.agg ?_))) ?_); intro c10 h10
  refine AOps.st 6 rfl rfl rfl (op_assign rfl rfl ?_)
  refine AOps.nil ?_
  refine go_code ?_
  refine c_ret ?_
  exact out_tmp rfl rfl (Le.refl _) (by first | exact MLe.none _ | exact MLe.refl _ | (repeat' (first | exact MLe.nil | exact MLe.refl _ | refine MLe.cons _ ?_ | refine MLe.drop _ ?_))) ⟨⟨_, h10, rfl⟩, rfl⟩
set_option maxHeartbeats 4000000 in
set_option maxRecDepth 100000 in
theorem EqF_Pa {β : Type} (f : Pa → β) (g : FuncId) (xs ys : List Pa) (hg : ∀ x ∈ xs, ∀ y, BCall Try.prog g [.agg x.cells, .agg y.cells] (f x = f y)) : BCall Try.prog 120 [.seq 5 (Pa.cellss xs), .seq 5 (Pa.cellss ys), .clo (.func g) [] []] (xs.map f = ys.map f) := by
  have hlx := Pa.cellss_len xs
  have hly := Pa.cellss_len ys
  refine ACall.enter Try.func120 rfl (by kernel_rfl) rfl (Nat.le_of_ble_eq_true rfl) ?_
  refine c_start ?_
  refine c_lens (t := 0) rfl (.seq _ _) (fun hmax => ?_)
  refine c_seq ?_
  refine c_region ?_
  refine AOps.st 6 rfl rfl rfl (op_assign rfl rfl ?_)
  refine AOps.nil ?_
  refine go_code ?_
  refine c_seq ?_
  refine c_seq ?_
  refine c_region ?_
  refine AOps.st 10 rfl rfl rfl (op_move rfl rfl ?_)
  refine AOps.st 11 rfl rfl rfl (op_len rfl tu_66 rfl (.seq _ _) (fun n11 => ?_))
  refine AOps.st 12 rfl rfl rfl (op_move rfl rfl ?_)
  refine AOps.st 13 rfl rfl rfl (op_len rfl tu_66 rfl (.seq _ _) (fun n13 => ?_))
  refine AOps.st 14 rfl rfl rfl (op_neq rfl rfl rfl ?_); intro c14 h14
  refine AOps.nil ?_
  refine go_code ?_
  rcases bool_split h14 with ⟨rfl, g14⟩ | ⟨rfl, g14⟩
  · refine c_cond_f rfl ?_
    refine c_skip ?_
    refine go_code ?_
    refine c_seq ?_
    refine c_seq ?_
    refine c_region ?_
    refine AOps.st 15 rfl rfl rfl (op_move rfl rfl ?_)
    refine AOps.st 16 rfl rfl rfl (op_len rfl tu_66 rfl (.seq _ _) (fun n16 => ?_))
    refine AOps.st 17 rfl rfl rfl (op_move rfl rfl ?_)
    refine AOps.nil ?_
    refine go_code ?_
    refine c_block ?_
    refine c_loop (σ := Nat) (fun zz => match zz with | i => [(0, .seq 5 (Pa.cellss xs)), (1, .seq 5 (Pa.cellss ys)), (2, .clo (.func g) [] []), (15, .seq 5 (Pa.cellss xs)), (16, .val (.int .i64 (Pa.cellss xs).length)), (17, .val (.int .i64 i))]) (fun zz => match zz with | i => []) (fun zz => match zz with | i => i ≤ xs.length ∧ Upto (xs.map f) (ys.map f) i) (fun zz => match zz with | i => xs.length - i) (0) ?_ ?_ ?_ ?_
    · exact ⟨by omega, Upto.zero _ _⟩
    · exact (by repeat' (first | exact SLe.nil _ | refine SLe.cons rfl ?_ ?_ | exact Le.refl _ | exact Le.own _ _ _ | exact Le.nil _))
    · exact (by first | exact MLe.none _ | exact MLe.refl _ | (repeat' (first | exact MLe.nil | exact MLe.refl _ | refine MLe.cons _ ?_ | refine MLe.drop _ ?_)))
    rintro i hI
    try dsimp only at hI ⊢
    obtain ⟨hi, hu⟩ := hI
    refine c_seq ?_
    refine c_region ?_
    refine AOps.st 18 rfl rfl rfl (op_lss rfl rfl rfl ?_); intro c18 h18
    refine AOps.nil ?_
    refine go_code ?_
    refine c_seq ?_
    rcases bool_split h18 with ⟨rfl, g18⟩ | ⟨rfl, g18⟩
    · refine c_cond_f rfl ?_
      refine c_exit ?_
      refine x_code ?_
      refine x_lp ?_
      refine x_here ?_
      refine go_code ?_
      refine c_seq ?_
      refine c_region ?_
      refine AOps.st 6 rfl rfl rfl (op_assign rfl rfl ?_)
      refine AOps.nil ?_
      refine go_code ?_
      refine c_ret ?_
      exact out_tmp rfl rfl (Le.refl _) (by first | exact MLe.none _ | exact MLe.refl _ | (repeat' (first | exact MLe.nil | exact MLe.refl _ | refine MLe.cons _ ?_ | refine MLe.drop _ ?_))) ⟨⟨_, iff_t (hu.eq (by simp; omega) (by simp; omega)), rfl⟩, rfl⟩
    · refine c_cond_t rfl ?_
      refine c_skip ?_
      refine go_code ?_
      refine c_seq ?_
      refine c_block ?_
      refine c_seq ?_
      obtain ⟨⟨k1, s1, n1, ks1, p1⟩, hx⟩ := get_some (l := xs) (i := i) (by omega)
      obtain ⟨⟨k2, s2, n2, ks2, p2⟩, hy⟩ := get_some (l := ys) (i := i) (by omega)
      have hcx := Pa.cellss_get hx
      have hcy := Pa.cellss_get hy
      refine c_region ?_
      refine AOps.st 19 rfl rfl rfl (op_move rfl rfl ?_)
      refine AOps.st 20 rfl rfl rfl (op_index rfl te_66 rfl (.seq _ _) rfl rfl (by assumption) ?_)
      first | (refine AOps.st 21 rfl rfl rfl (op_load_m (cs' := [_, _, _, _, _]) (i := 0) rfl ta_68 rfl rfl rfl rfl ?_)) | (refine AOps.st 21 rfl rfl rfl (op_load_m (cs' := [_, _, _, _, _]) (i := 1) rfl ta_68 rfl rfl rfl rfl ?_)) | (refine AOps.st 21 rfl rfl rfl (op_load_m (cs' := [_, _, _, _, _]) (i := 2) rfl ta_68 rfl rfl rfl rfl ?_)) | (refine AOps.st 21 rfl rfl rfl (op_load_m (cs' := [_, _, _, _, _]) (i := 3) rfl ta_68 rfl rfl rfl rfl ?_)) | (refine AOps.st 21 rfl rfl rfl (op_load_m (cs' := [_, _, _, _, _]) (i := 4) rfl ta_68 rfl rfl rfl rfl ?_)) | (refine AOps.st 21 rfl rfl rfl (op_load_m (cs' := [_, _, _, _, _]) (i := 5) rfl ta_68 rfl rfl rfl rfl ?_)) | (refine AOps.st 21 rfl rfl rfl (op_load_c (cs' := [_, _, _, _, _]) rfl ta_68 rfl rfl rfl ?_))
      refine AOps.st 8 rfl rfl rfl (op_alloce (cs' := [_, _, _, _, _]) rfl tz_68 rfl rfl ?_); intro b8
      refine AOps.st 7 rfl rfl rfl (op_assign rfl rfl ?_)
      refine AOps.st0 rfl rfl (op_store (cs' := [_, _, _, _, _]) (i := 0) rfl ts_68 rfl rfl rfl rfl rfl (Nat.le_of_ble_eq_true rfl) rfl ?_)
      refine AOps.nil ?_
      refine go_code ?_
      refine c_seq ?_
      refine c_region ?_
      refine AOps.st 22 rfl rfl rfl (op_move rfl rfl ?_)
      refine AOps.st 23 rfl rfl rfl (op_move rfl rfl ?_)
      refine AOps.st 24 rfl rfl rfl (op_index rfl te_66 rfl (.seq _ _) rfl rfl (by assumption) ?_)
      first | (refine AOps.st 25 rfl rfl rfl (op_load_m (cs' := [_, _, _, _, _]) (i := 0) rfl ta_68 rfl rfl rfl rfl ?_)) | (refine AOps.st 25 rfl rfl rfl (op_load_m (cs' := [_, _, _, _, _]) (i := 1) rfl ta_68 rfl rfl rfl rfl ?_)) | (refine AOps.st 25 rfl rfl rfl (op_load_m (cs' := [_, _, _, _, _]) (i := 2) rfl ta_68 rfl rfl rfl rfl ?_)) | (refine AOps.st 25 rfl rfl rfl (op_load_m (cs' := [_, _, _, _, _]) (i := 3) rfl ta_68 rfl rfl rfl rfl ?_)) | (refine AOps.st 25 rfl rfl rfl (op_load_m (cs' := [_, _, _, _, _]) (i := 4) rfl ta_68 rfl rfl rfl rfl ?_)) | (refine AOps.st 25 rfl rfl rfl (op_load_m (cs' := [_, _, _, _, _]) (i := 5) rfl ta_68 rfl rfl rfl rfl ?_)) | (refine AOps.st 25 rfl rfl rfl (op_load_c (cs' := [_, _, _, _, _]) rfl ta_68 rfl rfl rfl ?_))
      refine AOps.st 9 rfl rfl rfl (op_alloce (cs' := [_, _, _, _, _]) rfl tz_68 rfl rfl ?_); intro b9
      refine AOps.st0 rfl rfl (op_store (cs' := [_, _, _, _, _]) (i := 0) rfl ts_68 rfl rfl rfl rfl rfl (Nat.le_of_ble_eq_true rfl) rfl ?_)
      refine AOps.nil ?_
      refine go_code ?_
      refine c_seq ?_
      refine c_region ?_
      refine AOps.st 26 rfl rfl rfl (op_move rfl rfl ?_)
      first | (refine AOps.st 27 rfl rfl rfl (op_load_m (cs' := [_, _, _, _, _]) (i := 0) rfl ta_68 rfl rfl rfl rfl ?_)) | (refine AOps.st 27 rfl rfl rfl (op_load_m (cs' := [_, _, _, _, _]) (i := 1) rfl ta_68 rfl rfl rfl rfl ?_))
      refine AOps.st 28 rfl rfl rfl (op_load_m (cs' := [_, _, _, _, _]) (i := 0) rfl ta_68 rfl rfl rfl rfl ?_)
      refine AOps.st 29 rfl rfl rfl (op_callvb (xs := [.tmp 27, .tmp 28]) rfl rfl rfl (hg _ (List.mem_of_getElem? hx) ⟨k2, s2, n2, ks2, p2⟩) (by first | exact Les.refl _ | (repeat' (first | exact Les.refl _ | refine Les.cons ?_ ?_ | exact Le.refl _ | exact Le.own _ _ _ | exact Le.nil _ | refine Le.agg ?_))) ?_); intro c29 h29
      refine AOps.st 30 rfl rfl rfl (op_notc rfl rfl ?_); intro c30 h30
      try replace h30 := nott h30 h29
      refine AOps.nil ?_
      refine go_code ?_
      rcases bool_split h30 with ⟨rfl, g30⟩ | ⟨rfl, g30⟩
      · refine c_cond_f rfl ?_
        refine c_skip ?_
        refine go_blk ?_
        refine go_code ?_
        refine c_region ?_
        refine AOps.st 31 rfl rfl rfl (op_add rfl rfl rfl (IntWalk.i64_in _ (by omega)) ?_)
        refine AOps.st 17 rfl rfl rfl (op_move rfl rfl ?_)
        refine AOps.nil ?_
        refine go_lp ?_
        exact ⟨i + 1, ⟨by omega, upto_map f hu hx hy (Classical.not_not.1 g30)⟩, by simp; omega, (by repeat' (first | exact SLe.nil _ | refine SLe.cons rfl ?_ ?_ | exact Le.refl _ | exact Le.own _ _ _ | exact Le.nil _)), (by first | exact MLe.none _ | exact MLe.refl _ | (repeat' (first | exact MLe.nil | exact MLe.refl _ | refine MLe.cons _ ?_ | refine MLe.drop _ ?_)))⟩
      · refine c_cond_t rfl ?_
        refine c_seq ?_
        refine c_region ?_
        refine AOps.st 6 rfl rfl rfl (op_assign rfl rfl ?_)
        refine AOps.nil ?_
        refine go_code ?_
        refine c_ret ?_
        exact out_tmp rfl rfl (Le.refl _) (by first | exact MLe.none _ | exact MLe.refl _ | (repeat' (first | exact MLe.nil | exact MLe.refl _ | refine MLe.cons _ ?_ | refine MLe.drop _ ?_))) ⟨⟨_, iff_f (map_ne f hx hy g30), rfl⟩, rfl⟩
  · refine c_cond_t rfl ?_
    refine c_seq ?_
    refine c_region ?_
    refine AOps.st 6 rfl rfl rfl (op_assign rfl rfl ?_)
    refine AOps.nil ?_
    refine go_code ?_
    refine c_ret ?_
    exact out_tmp rfl rfl (Le.refl _) (by first | exact MLe.none _ | exact MLe.refl _ | (repeat' (first | exact MLe.nil | exact MLe.refl _ | refine MLe.cons _ ?_ | refine MLe.drop _ ?_))) ⟨⟨_, iff_f (map_len_ne f (by omega)), rfl⟩, rfl⟩
set_option maxHeartbeats 4000000 in
set_option maxRecDepth 100000 in
theorem Eqs_Pa {β : Type} (f : Pa → β) (g : FuncId) (xs ys : List Pa) (hg : ∀ x ∈ xs, ∀ y, BCall Try.prog g [.agg x.cells, .agg y.cells] (f x = f y)) : BCall Try.prog 94 [.seq 5 (Pa.cellss xs), .seq 5 (Pa.cellss ys), .clo (.func g) [] []] (xs.map f = ys.map f) := by
  have H := EqF_Pa f g xs ys hg
  refine ACall.enter Try.func94 rfl (by kernel_rfl) rfl (Nat.le_of_ble_eq_true rfl) ?_
  refine c_start ?_
  refine c_seq ?_
  refine c_region ?_
  refine AOps.st 6 rfl rfl rfl (op_assign rfl rfl ?_)
  refine AOps.nil ?_
  refine go_code ?_
  refine c_seq ?_
  refine c_region ?_
  refine AOps.st 7 rfl rfl rfl (op_move rfl rfl ?_)
  refine AOps.st 8 rfl rfl rfl (op_move rfl rfl ?_)
  refine AOps.st 9 rfl rfl rfl (op_move rfl rfl ?_)
  refine AOps.st 10 rfl rfl rfl (op_callb (xs := [.tmp 7, .tmp 8, .tmp 9]) rfl rfl (H) (by first | exact Les.refl _ | (repeat' (first | exact Les.refl _ | refine Les.cons ?_ ?_ | exact Le.refl _ | exact Le.own _ _ _ | exact Le.nil _ | refine Le.agg ?_))) ?_); intro c10 h10
  refine AOps.st 6 rfl rfl rfl (op_assign rfl rfl ?_)
  refine AOps.nil ?_
  refine go_code ?_
  refine c_ret ?_
  exact out_tmp rfl rfl (Le.refl _) (by first | exact MLe.none _ | exact MLe.refl _ | (repeat' (first | exact MLe.nil | exact MLe.refl _ | refine MLe.cons _ ?_ | refine MLe.drop _ ?_))) ⟨⟨_, h10, rfl⟩, rfl⟩
end Go.Proofs.Ytjgjnheeohfmmaa
