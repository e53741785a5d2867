/- cognateref05.Size, Deep; cognatelaw05.Count, Small -/
import Derived.Test.YtjgjnheeohfmmaaB05y
namespace Go.Proofs.Ytjgjnheeohfmmaa
open Go.RowKit
theorem Le.of_eq {a b : AV} (h : a = b) : Le a b := h ▸ Le.refl _
set_option maxHeartbeats 4000000 in
set_option maxRecDepth 100000 in
theorem rSize_c (e : Ex) (hs : e.sz ≤ 1000000000) : PCall Try.prog 42 [.agg e.cells] (.val (.int .i64 e.sz)) := by
  have IH : ∀ x ∈ e.parts, PCall Try.prog 42 [.agg x.cells] (.val (.int .i64 x.sz)) := fun x hx => rSize_c x (Nat.le_trans (Nat.le_of_lt (Ex.sz_part hx)) hs)
  have hsz := Ex.sz_eq e
  have HP := rParts_c e (by have := Ex.parts_lt e; omega)
  have hpl := Ex.parts_lt e
  have htake := sum_take_le (e.parts.map Ex.sz)
  have hsum : ∀ k x, e.parts[k]? = some x → ((e.parts.map Ex.sz).take (k + 1)).sum = ((e.parts.map Ex.sz).take k).sum + x.sz := fun k x hx => sum_take (by simp [hx])
  generalize hps : e.parts = ps at *
  generalize e.sz = esz at *
  have hl := Ex.cellss_len ps
  obtain ⟨k, s, n, ⟨tk, ts, tn, tks⟩, ks, al, bs, p⟩ := e
  refine ACall.enter Try.func42 rfl (by kernel_rfl) rfl (Nat.le_of_ble_eq_true rfl) ?_
  refine c_start ?_
  refine c_seq ?_
  refine c_region ?_
  refine AOps.st 1 rfl rfl rfl (op_boxc (cs' := [_, _, _, _, _, _, _, _, _, _, _]) rfl rfl rfl rfl ?_)
  refine AOps.st 2 rfl rfl rfl (op_assign rfl rfl ?_)
  refine AOps.nil ?_
  refine go_code ?_
  refine c_seq ?_
  refine c_region ?_
  refine AOps.st 6 rfl rfl rfl (op_load_c (cs' := [_, _, _, _, _, _, _, _, _, _, _]) rfl ta_60 rfl rfl rfl ?_)
  refine AOps.st 7 rfl rfl rfl (op_callo (xs := [.tmp 6]) rfl rfl (HP) (by first | exact Les.refl _ | (repeat' (first | exact Les.refl _ | refine Les.cons ?_ ?_ | exact Le.refl _ | exact Le.own _ _ _ | exact Le.nil _ | refine Le.agg ?_))) ?_); intro u7
  refine AOps.st 3 rfl rfl rfl (op_assign rfl rfl ?_)
  refine AOps.nil ?_
  refine go_code ?_
  refine c_seq ?_
  refine c_region ?_
  refine AOps.st 4 rfl rfl rfl (op_assign rfl rfl ?_)
  refine AOps.nil ?_
  refine go_code ?_
  refine c_seq ?_
  refine c_seq ?_
  refine c_region ?_
  refine AOps.st 5 rfl rfl rfl (op_assign rfl rfl ?_)
  refine AOps.nil ?_
  refine go_code ?_
  refine c_block ?_
  refine c_loop (σ := Nat) (fun zz => match zz with | i => [(3, .own u7 11 (Ex.cellss ps)), (4, .val (.int .i64 (1 + ((ps.map Ex.sz).take i).sum : Nat))), (5, .val (.int .i64 i))]) (fun zz => match zz with | i => [.own 60 11 u7]) (fun zz => match zz with | i => i ≤ ps.length) (fun zz => match zz with | i => ps.length - i) (0) ?_ ?_ ?_ ?_
  · simp
  · exact (by repeat' (first | exact SLe.nil _ | refine SLe.cons rfl ?_ ?_ | exact Le.refl _ | exact Le.own _ _ _ | exact Le.nil _))
  · exact (by first | exact MLe.none _ | exact MLe.refl _ | (repeat' (first | exact MLe.nil | exact MLe.refl _ | refine MLe.cons _ ?_ | refine MLe.drop _ ?_)))
  rintro i hI
  try dsimp only at hI ⊢
  refine c_seq ?_
  refine c_seq ?_
  refine c_region ?_
  refine AOps.st 8 rfl rfl rfl (op_move rfl rfl ?_)
  refine AOps.st 9 rfl rfl rfl (op_move rfl rfl ?_)
  first | (refine AOps.st 10 rfl rfl rfl (op_len rfl tu_56 rfl (.seq _ _) (fun n10 => ?_))) | (refine AOps.st 10 rfl rfl rfl (op_len rfl tu_56 rfl (.own _ _ _) (fun n10 => ?_)))
  refine AOps.st 11 rfl rfl rfl (op_lss rfl rfl rfl ?_); intro c11 h11
  refine AOps.nil ?_
  refine go_code ?_
  rcases bool_split h11 with ⟨rfl, g11⟩ | ⟨rfl, g11⟩
  · refine c_cond_f rfl ?_
    refine c_exit ?_
    refine x_code ?_
    refine x_lp ?_
    refine x_here ?_
    refine go_code ?_
    refine c_seq ?_
    refine c_region ?_
    refine AOps.st 21 rfl rfl rfl (op_move rfl rfl ?_)
    refine AOps.st 2 rfl rfl rfl (op_assign rfl rfl ?_)
    refine AOps.nil ?_
    refine go_code ?_
    refine c_ret ?_
    refine out_tmp rfl rfl (Le.of_eq ?_) (by first | exact MLe.none _ | exact MLe.refl _ | (repeat' (first | exact MLe.nil | exact MLe.refl _ | refine MLe.cons _ ?_ | refine MLe.drop _ ?_))) ⟨rfl, rfl⟩
    rw [hsz, List.take_of_length_le (by simp; omega)]
  · refine c_cond_t rfl ?_
    refine c_skip ?_
    refine go_code ?_
    refine c_seq ?_
    refine c_block ?_
    obtain ⟨⟨yk, yn, yu, ⟨ytk, yts, ytn, ytks⟩, yks, yal, ybs, yp⟩, hx⟩ := get_some (l := ps) (i := i) (by omega)
    have hcx := Ex.cellss_get hx
    have hIH := IH _ (List.mem_of_getElem? hx)
    have e1 := hsum _ _ hx
    have e2 := htake (i + 1)
    have e3 := htake i
    generalize (Ex.mk yk yn yu ⟨ytk, yts, ytn, ytks⟩ yks yal ybs yp).sz = ysz at *
    refine c_region ?_
    refine AOps.st 14 rfl rfl rfl (op_move rfl rfl ?_)
    refine AOps.st 15 rfl rfl rfl (op_move rfl rfl ?_)
    refine AOps.st 16 rfl rfl rfl (op_move rfl rfl ?_)
    first | (refine AOps.st 17 rfl rfl rfl (op_index rfl te_56 rfl (.seq _ _) rfl rfl (by assumption) ?_)) | (refine AOps.st 17 rfl rfl rfl (op_index (i := 0) rfl te_56 rfl (.seq _ _) rfl rfl (by first | rfl | assumption) ?_)) | (refine AOps.st 17 rfl rfl rfl (op_index (i := 1) rfl te_56 rfl (.seq _ _) rfl rfl (by first | rfl | assumption) ?_)) | (refine AOps.st 17 rfl rfl rfl (op_index rfl te_56 rfl (.own _ _ _) rfl rfl (by assumption) ?_))
    first | (refine AOps.st 18 rfl rfl rfl (op_load_m (cs' := [_, _, _, _, _, _, _, _, _, _, _]) (i := 0) rfl ta_60 rfl rfl rfl rfl ?_)) | (refine AOps.st 18 rfl rfl rfl (op_load_m (cs' := [_, _, _, _, _, _, _, _, _, _, _]) (i := 1) rfl ta_60 rfl rfl rfl rfl ?_)) | (refine AOps.st 18 rfl rfl rfl (op_load_m (cs' := [_, _, _, _, _, _, _, _, _, _, _]) (i := 2) rfl ta_60 rfl rfl rfl rfl ?_)) | (refine AOps.st 18 rfl rfl rfl (op_load_m (cs' := [_, _, _, _, _, _, _, _, _, _, _]) (i := 3) rfl ta_60 rfl rfl rfl rfl ?_)) | (refine AOps.st 18 rfl rfl rfl (op_load_m (cs' := [_, _, _, _, _, _, _, _, _, _, _]) (i := 4) rfl ta_60 rfl rfl rfl rfl ?_)) | (refine AOps.st 18 rfl rfl rfl (op_load_m (cs' := [_, _, _, _, _, _, _, _, _, _, _]) (i := 5) rfl ta_60 rfl rfl rfl rfl ?_)) | (refine AOps.st 18 rfl rfl rfl (op_load_c (cs' := [_, _, _, _, _, _, _, _, _, _, _]) rfl ta_60 rfl rfl rfl ?_))
    refine AOps.st 19 rfl rfl rfl (op_callp (xs := [.tmp 18]) rfl rfl (hIH) (by first | exact Les.refl _ | (repeat' (first | exact Les.refl _ | refine Les.cons ?_ ?_ | exact Le.refl _ | exact Le.own _ _ _ | exact Le.nil _ | refine Le.agg ?_))) ?_)
    refine AOps.st 20 rfl rfl rfl (op_add rfl rfl rfl (IntWalk.i64_in _ (by omega)) ?_)
    refine AOps.st 4 rfl rfl rfl (op_assign rfl rfl ?_)
    refine AOps.nil ?_
    refine go_blk ?_
    refine go_code ?_
    refine c_region ?_
    refine AOps.st 12 rfl rfl rfl (op_move rfl rfl ?_)
    refine AOps.st 13 rfl rfl rfl (op_add rfl rfl rfl (IntWalk.i64_in _ (by omega)) ?_)
    refine AOps.st 5 rfl rfl rfl (op_assign rfl rfl ?_)
    refine AOps.nil ?_
    refine go_lp ?_
    refine ⟨i + 1, by simp; omega, by simp; omega, ?_, (by first | exact MLe.none _ | exact MLe.refl _ | (repeat' (first | exact MLe.nil | exact MLe.refl _ | refine MLe.cons _ ?_ | refine MLe.drop _ ?_)))⟩
    dsimp only
    rw [show ((1 + ((ps.map Ex.sz).take (i + 1)).sum : Nat) : Int) = ((1 + ((ps.map Ex.sz).take i).sum : Nat) : Int) + ysz from by rw [e1]; omega]
    exact (by repeat' (first | exact SLe.nil _ | refine SLe.cons rfl ?_ ?_ | exact Le.refl _ | exact Le.own _ _ _ | exact Le.nil _))
termination_by SizeOf.sizeOf e
decreasing_by exact Ex.lt_part hx
set_option maxHeartbeats 4000000 in
set_option maxRecDepth 100000 in
theorem rDeep_c (e : Ex) (hs : e.sz ≤ 1000000000) : PCall Try.prog 44 [.agg e.cells] (.val (.int .i64 e.dp)) := by
  have IH : ∀ x ∈ e.parts, PCall Try.prog 44 [.agg x.cells] (.val (.int .i64 x.dp)) := fun x hx => rDeep_c x (Nat.le_trans (Nat.le_of_lt (Ex.sz_part hx)) hs)
  have hsz := Ex.dp_eq e
  have hle := Ex.dp_le e
  have hpl := Ex.parts_lt e
  have HP := rParts_c e (by omega)
  have hmx : ∀ k, maxOf ((e.parts.map Ex.dp).take k) ≤ 1000000000 := fun k => maxOf_le fun x hx => by
    obtain ⟨y, hy, rfl⟩ := List.mem_map.1 (List.mem_of_mem_take hx)
    have := Ex.sz_part hy
    have := Ex.dp_le y
    omega
  have hsum : ∀ k x, e.parts[k]? = some x → maxOf ((e.parts.map Ex.dp).take (k + 1)) = max (maxOf ((e.parts.map Ex.dp).take k)) x.dp := fun k x hx => maxOf_take (by simp [hx])
  generalize hps : e.parts = ps at *
  generalize e.sz = esz at *
  generalize e.dp = edp at *
  have hl := Ex.cellss_len ps
  obtain ⟨k, s, n, ⟨tk, ts, tn, tks⟩, ks, al, bs, p⟩ := e
  refine ACall.enter Try.func44 rfl (by kernel_rfl) rfl (Nat.le_of_ble_eq_true rfl) ?_
  refine c_start ?_
  refine c_seq ?_
  refine c_region ?_
  refine AOps.st 1 rfl rfl rfl (op_boxc (cs' := [_, _, _, _, _, _, _, _, _, _, _]) rfl rfl rfl rfl ?_)
  refine AOps.st 2 rfl rfl rfl (op_assign rfl rfl ?_)
  refine AOps.nil ?_
  refine go_code ?_
  refine c_seq ?_
  refine c_region ?_
  refine AOps.st 7 rfl rfl rfl (op_load_c (cs' := [_, _, _, _, _, _, _, _, _, _, _]) rfl ta_60 rfl rfl rfl ?_)
  refine AOps.st 8 rfl rfl rfl (op_callo (xs := [.tmp 7]) rfl rfl (HP) (by first | exact Les.refl _ | (repeat' (first | exact Les.refl _ | refine Les.cons ?_ ?_ | exact Le.refl _ | exact Le.own _ _ _ | exact Le.nil _ | refine Le.agg ?_))) ?_); intro u8
  refine AOps.st 3 rfl rfl rfl (op_assign rfl rfl ?_)
  refine AOps.nil ?_
  refine go_code ?_
  refine c_seq ?_
  refine c_region ?_
  refine AOps.st 4 rfl rfl rfl (op_assign rfl rfl ?_)
  refine AOps.nil ?_
  refine go_code ?_
  refine c_seq ?_
  refine c_seq ?_
  refine c_region ?_
  refine AOps.st 5 rfl rfl rfl (op_assign rfl rfl ?_)
  refine AOps.nil ?_
  refine go_code ?_
  refine c_block ?_
  refine c_loop (σ := Nat) (fun zz => match zz with | i => [(3, .own u8 11 (Ex.cellss ps)), (4, .val (.int .i64 (maxOf ((ps.map Ex.dp).take i) : Nat))), (5, .val (.int .i64 i))]) (fun zz => match zz with | i => [.own 60 11 u8]) (fun zz => match zz with | i => i ≤ ps.length) (fun zz => match zz with | i => ps.length - i) (0) ?_ ?_ ?_ ?_
  · simp
  · exact (by repeat' (first | exact SLe.nil _ | refine SLe.cons rfl ?_ ?_ | exact Le.refl _ | exact Le.own _ _ _ | exact Le.nil _))
  · exact (by first | exact MLe.none _ | exact MLe.refl _ | (repeat' (first | exact MLe.nil | exact MLe.refl _ | refine MLe.cons _ ?_ | refine MLe.drop _ ?_)))
  rintro i hI
  try dsimp only at hI ⊢
  refine c_seq ?_
  refine c_seq ?_
  refine c_region ?_
  refine AOps.st 9 rfl rfl rfl (op_move rfl rfl ?_)
  refine AOps.st 10 rfl rfl rfl (op_move rfl rfl ?_)
  first | (refine AOps.st 11 rfl rfl rfl (op_len rfl tu_56 rfl (.seq _ _) (fun n11 => ?_))) | (refine AOps.st 11 rfl rfl rfl (op_len rfl tu_56 rfl (.own _ _ _) (fun n11 => ?_)))
  refine AOps.st 12 rfl rfl rfl (op_lss rfl rfl rfl ?_); intro c12 h12
  refine AOps.nil ?_
  refine go_code ?_
  rcases bool_split h12 with ⟨rfl, g12⟩ | ⟨rfl, g12⟩
  · refine c_cond_f rfl ?_
    refine c_exit ?_
    refine x_code ?_
    refine x_lp ?_
    refine x_here ?_
    refine go_code ?_
    refine c_seq ?_
    have e3 := hmx i
    refine c_region ?_
    refine AOps.st 24 rfl rfl rfl (op_move rfl rfl ?_)
    refine AOps.st 25 rfl rfl rfl (op_add rfl rfl rfl (IntWalk.i64_in _ (by omega)) ?_)
    refine AOps.st 2 rfl rfl rfl (op_assign rfl rfl ?_)
    refine AOps.nil ?_
    refine go_code ?_
    refine c_ret ?_
    refine out_tmp rfl rfl (Le.of_eq ?_) (by first | exact MLe.none _ | exact MLe.refl _ | (repeat' (first | exact MLe.nil | exact MLe.refl _ | refine MLe.cons _ ?_ | refine MLe.drop _ ?_))) ⟨rfl, rfl⟩
    rw [List.take_of_length_le (by simp; omega), hsz]
    simp; omega
  · refine c_cond_t rfl ?_
    refine c_skip ?_
    refine go_code ?_
    refine c_seq ?_
    refine c_block ?_
    refine c_seq ?_
    obtain ⟨⟨yk, yn, yu, ⟨ytk, yts, ytn, ytks⟩, yks, yal, ybs, yp⟩, hx⟩ := get_some (l := ps) (i := i) (by omega)
    have hcx := Ex.cellss_get hx
    have hIH := IH _ (List.mem_of_getElem? hx)
    have e1 := hsum _ _ hx
    have e2 := hmx (i + 1)
    have e3 := hmx i
    generalize (Ex.mk yk yn yu ⟨ytk, yts, ytn, ytks⟩ yks yal ybs yp).dp = ysz at *
    refine c_region ?_
    refine AOps.st 15 rfl rfl rfl (op_move rfl rfl ?_)
    refine AOps.st 16 rfl rfl rfl (op_move rfl rfl ?_)
    first | (refine AOps.st 17 rfl rfl rfl (op_index rfl te_56 rfl (.seq _ _) rfl rfl (by assumption) ?_)) | (refine AOps.st 17 rfl rfl rfl (op_index (i := 0) rfl te_56 rfl (.seq _ _) rfl rfl (by first | rfl | assumption) ?_)) | (refine AOps.st 17 rfl rfl rfl (op_index (i := 1) rfl te_56 rfl (.seq _ _) rfl rfl (by first | rfl | assumption) ?_)) | (refine AOps.st 17 rfl rfl rfl (op_index rfl te_56 rfl (.own _ _ _) rfl rfl (by assumption) ?_))
    first | (refine AOps.st 18 rfl rfl rfl (op_load_m (cs' := [_, _, _, _, _, _, _, _, _, _, _]) (i := 0) rfl ta_60 rfl rfl rfl rfl ?_)) | (refine AOps.st 18 rfl rfl rfl (op_load_m (cs' := [_, _, _, _, _, _, _, _, _, _, _]) (i := 1) rfl ta_60 rfl rfl rfl rfl ?_)) | (refine AOps.st 18 rfl rfl rfl (op_load_m (cs' := [_, _, _, _, _, _, _, _, _, _, _]) (i := 2) rfl ta_60 rfl rfl rfl rfl ?_)) | (refine AOps.st 18 rfl rfl rfl (op_load_m (cs' := [_, _, _, _, _, _, _, _, _, _, _]) (i := 3) rfl ta_60 rfl rfl rfl rfl ?_)) | (refine AOps.st 18 rfl rfl rfl (op_load_m (cs' := [_, _, _, _, _, _, _, _, _, _, _]) (i := 4) rfl ta_60 rfl rfl rfl rfl ?_)) | (refine AOps.st 18 rfl rfl rfl (op_load_m (cs' := [_, _, _, _, _, _, _, _, _, _, _]) (i := 5) rfl ta_60 rfl rfl rfl rfl ?_)) | (refine AOps.st 18 rfl rfl rfl (op_load_c (cs' := [_, _, _, _, _, _, _, _, _, _, _]) rfl ta_60 rfl rfl rfl ?_))
    refine AOps.st 19 rfl rfl rfl (op_callp (xs := [.tmp 18]) rfl rfl (hIH) (by first | exact Les.refl _ | (repeat' (first | exact Les.refl _ | refine Les.cons ?_ ?_ | exact Le.refl _ | exact Le.own _ _ _ | exact Le.nil _ | refine Le.agg ?_))) ?_)
    refine AOps.st 6 rfl rfl rfl (op_assign rfl rfl ?_)
    refine AOps.nil ?_
    refine go_code ?_
    refine c_seq ?_
    refine c_region ?_
    refine AOps.st 20 rfl rfl rfl (op_move rfl rfl ?_)
    refine AOps.st 21 rfl rfl rfl (op_move rfl rfl ?_)
    refine AOps.st 22 rfl rfl rfl (op_gtr rfl rfl rfl ?_); intro c22 h22
    refine AOps.nil ?_
    refine go_code ?_
    rcases bool_split h22 with ⟨rfl, g22⟩ | ⟨rfl, g22⟩
    · refine c_cond_f rfl ?_
      refine c_skip ?_
      refine go_blk ?_
      refine go_code ?_
      refine c_region ?_
      refine AOps.st 13 rfl rfl rfl (op_move rfl rfl ?_)
      refine AOps.st 14 rfl rfl rfl (op_add rfl rfl rfl (IntWalk.i64_in _ (by omega)) ?_)
      refine AOps.st 5 rfl rfl rfl (op_assign rfl rfl ?_)
      refine AOps.nil ?_
      refine go_lp ?_
      refine ⟨i + 1, by simp; omega, by simp; omega, ?_, (by first | exact MLe.none _ | exact MLe.refl _ | (repeat' (first | exact MLe.nil | exact MLe.refl _ | refine MLe.cons _ ?_ | refine MLe.drop _ ?_)))⟩
      dsimp only
      first
      | rw [show ((maxOf ((ps.map Ex.dp).take (i + 1)) : Nat) : Int) = ysz from by rw [e1]; omega]
      | rw [show ((maxOf ((ps.map Ex.dp).take (i + 1)) : Nat) : Int) = (maxOf ((ps.map Ex.dp).take i) : Nat) from by rw [e1]; omega]
      exact (by repeat' (first | exact SLe.nil _ | refine SLe.cons rfl ?_ ?_ | exact Le.refl _ | exact Le.own _ _ _ | exact Le.nil _))
    · refine c_cond_t rfl ?_
      refine c_region ?_
      refine AOps.st 23 rfl rfl rfl (op_move rfl rfl ?_)
      refine AOps.st 4 rfl rfl rfl (op_assign rfl rfl ?_)
      refine AOps.nil ?_
      refine go_blk ?_
      refine go_code ?_
      refine c_region ?_
      refine AOps.st 13 rfl rfl rfl (op_move rfl rfl ?_)
      refine AOps.st 14 rfl rfl rfl (op_add rfl rfl rfl (IntWalk.i64_in _ (by omega)) ?_)
      refine AOps.st 5 rfl rfl rfl (op_assign rfl rfl ?_)
      refine AOps.nil ?_
      refine go_lp ?_
      refine ⟨i + 1, by simp; omega, by simp; omega, ?_, (by first | exact MLe.none _ | exact MLe.refl _ | (repeat' (first | exact MLe.nil | exact MLe.refl _ | refine MLe.cons _ ?_ | refine MLe.drop _ ?_)))⟩
      dsimp only
      first
      | rw [show ((maxOf ((ps.map Ex.dp).take (i + 1)) : Nat) : Int) = ysz from by rw [e1]; omega]
      | rw [show ((maxOf ((ps.map Ex.dp).take (i + 1)) : Nat) : Int) = (maxOf ((ps.map Ex.dp).take i) : Nat) from by rw [e1]; omega]
      exact (by repeat' (first | exact SLe.nil _ | refine SLe.cons rfl ?_ ?_ | exact Le.refl _ | exact Le.own _ _ _ | exact Le.nil _))
termination_by SizeOf.sizeOf e
decreasing_by exact Ex.lt_part hx
end Go.Proofs.Ytjgjnheeohfmmaa
