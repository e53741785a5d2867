/- cognateref05.Free -/
import Derived.Test.YtjgjnheeohfmmaaB05r
namespace Go.Proofs.Ytjgjnheeohfmmaa
open Go.RowKit
theorem Bi.ws_e : ∀ bs : List Bi, Ex.ws (bs.map Bi.e) ≤ Bi.ws bs
  | [] => by simp [Ex.ws]
  | .mk s e p :: bs => by have := Bi.ws_e bs; simp only [List.map_cons, Bi.e, Ex.ws, Bi.ws, Bi.w]; omega
theorem Bi.e_w {x : Bi} {bs : List Bi} (h : x ∈ bs) : x.e.w ≤ Bi.ws bs := by
  rw [Bi.ws_map]
  have := sum_mem (List.mem_map.2 ⟨x, h, rfl⟩ : x.w ∈ bs.map Bi.w)
  cases x; simp only [Bi.w, Bi.e] at *; omega
theorem Al.e_w {x : Al} {bs : List Al} (h : x ∈ bs) : x.e.w + x.q.size ≤ Al.ws bs := by
  rw [Al.ws_map]
  have := sum_mem (List.mem_map.2 ⟨x, h, rfl⟩ : x.w ∈ bs.map Al.w)
  cases x; simp only [Al.w, Al.e, Al.q] at *; omega
theorem Ex.e_w {x : Ex} {bs : List Ex} (h : x ∈ bs) : x.w ≤ Ex.ws bs := by
  rw [Ex.ws_map]
  exact sum_mem (List.mem_map.2 ⟨x, h, rfl⟩ : x.w ∈ bs.map Ex.w)
set_option maxHeartbeats 4000000 in
set_option maxRecDepth 100000 in
theorem rFree_c (e : Ex) : e.w ≤ 1000000000 → PCall Try.prog 53 [.agg e.cells] (.seq 1 (strs e.rf)) := by
  obtain ⟨k, s, n, ⟨tk, ts, tn, tks⟩, ks, al, bs, p⟩ := e
  intro hw
  rw [Ex.w] at hw
  have IHk : ∀ x ∈ ks, PCall Try.prog 53 [.agg x.cells] (.seq 1 (strs x.rf)) := fun x hx => rFree_c x (by have := Ex.e_w hx; omega)
  have IHb : ∀ x ∈ bs, PCall Try.prog 53 [.agg x.e.cells] (.seq 1 (strs x.e.rf)) := fun x hx => rFree_c x.e (by have := Bi.e_w hx; omega)
  have IHa : ∀ x ∈ al, PCall Try.prog 53 [.agg x.e.cells] (.seq 1 (strs x.e.rf)) := fun x hx => rFree_c x.e (by have := Al.e_w hx; omega)
  have HK := frees_c ks (by omega) IHk
  have HB := frees_c (bs.map Bi.e) (by have := Bi.ws_e bs; omega) (fun x hx => by
    obtain ⟨y, hy, rfl⟩ := List.mem_map.1 hx
    exact IHb y hy)
  have hln := Bi.len_ws bs
  have HN := (Bound_c bs (by omega)).pure
  rw [← Bi.rfs_map] at HB
  have hlK := Ex.rfs_len ks []
  have hlB := Bi.rfs_len bs []
  simp only [List.length_nil, Nat.zero_add] at hlK hlB
  rw [Ex.rf]
  generalize Ex.rfs ks [] = K at *
  generalize Bi.rfs bs [] = B at *
  generalize Bi.names bs = N at *
  obtain ⟨X, hX⟩ : ∃ X, X = (if k = 7 then jn (jn (if k = 3 then [s] else []) (if n = 1 then wo B N else B)) (wo K N) else if k = 6 then jn (jn (if k = 3 then [s] else []) (wo K [s])) B else jn (jn (if k = 3 then [s] else []) K) B) := ⟨_, rfl⟩
  rw [← hX]
  have hlb := Bi.cellss_len bs
  have hla := Al.cellss_len al
  refine ACall.enter Try.func53 rfl (by kernel_rfl) rfl (Nat.le_of_ble_eq_true rfl) ?_
  refine c_start ?_
  refine c_lena (t := 0) (j := 8) rfl rfl (.seq _ _) (fun hmax1 => ?_)
  refine c_lena (t := 0) (j := 9) rfl rfl (.seq _ _) (fun hmax2 => ?_)
  refine c_seq ?_
  refine c_region ?_
  refine AOps.st 1 rfl rfl rfl (op_boxc (cs' := [_, _, _, _, _, _, _, _, _, _, _]) rfl rfl rfl rfl ?_)
  refine AOps.st 2 rfl rfl rfl (op_assign rfl rfl ?_)
  refine AOps.nil ?_
  refine go_code ?_
  refine c_seq ?_
  refine c_region ?_
  refine AOps.st 3 rfl rfl rfl (op_assign rfl rfl ?_)
  refine AOps.nil ?_
  refine go_code ?_
  refine c_seq ?_
  refine c_seq ?_
  refine ACode.ownNil (t := 3) 60 11 rfl ?_
  refine c_region ?_
  refine AOps.st 4 rfl rfl rfl (op_assign rfl rfl ?_)
  refine AOps.nil ?_
  refine go_code ?_
  refine c_block ?_
  refine c_loop (σ := Nat × Value) (fun zz => match zz with | (i, u) => [(1, .cptr (Ex.mk k s n ⟨tk, ts, tn, tks⟩ ks al bs p).cells), (3, .own u 11 (Ex.cellss ((bs.take i).map Bi.e))), (4, .val (.int .i64 i))]) (fun zz => match zz with | (i, u) => [.own 60 11 u]) (fun zz => match zz with | (i, u) => i ≤ bs.length) (fun zz => match zz with | (i, u) => bs.length - i) ((0, .slice none 0 0)) ?_ ?_ ?_ ?_
  · simp
  · exact (by repeat' (first | exact SLe.nil _ | refine SLe.cons rfl ?_ ?_ | exact Le.refl _ | exact Le.own _ _ _ | exact Le.nil _))
  · exact (by first | exact MLe.none _ | exact MLe.refl _ | (repeat' (first | exact MLe.nil | exact MLe.refl _ | refine MLe.cons _ ?_ | refine MLe.drop _ ?_)))
  rintro ⟨i, u⟩ hI
  try dsimp only at hI ⊢
  refine c_seq ?_
  refine c_seq ?_
  refine c_region ?_
  refine AOps.st 9 rfl rfl rfl (op_move rfl rfl ?_)
  refine AOps.st 10 rfl rfl rfl (op_fieldAddr_c rfl tf_60_6 rfl rfl ?_)
  refine AOps.st 11 rfl rfl rfl (op_load_c1 rfl ta_58 rfl rfl ?_)
  first | (refine AOps.st 12 rfl rfl rfl (op_len rfl tu_58 rfl (.seq _ _) (fun n12 => ?_))) | (refine AOps.st 12 rfl rfl rfl (op_len rfl tu_58 rfl (.own _ _ _) (fun n12 => ?_))) | (refine AOps.st 12 rfl rfl rfl (op_len rfl tu_58 rfl (.nil 0) (fun n12 => ?_))) | (refine AOps.st 12 rfl rfl rfl (op_len_arr rfl tu_58 rfl ?_))
  refine AOps.st 13 rfl rfl rfl (op_lss rfl rfl rfl ?_); intro c13 h13
  refine AOps.nil ?_
  refine go_code ?_
  rcases bool_split h13 with ⟨rfl, g13⟩ | ⟨rfl, g13⟩
  · refine c_cond_f rfl ?_
    refine c_exit ?_
    refine x_code ?_
    refine x_lp ?_
    refine x_here ?_
    refine go_code ?_
    refine c_seq ?_
    rw [List.take_of_length_le (by omega)]
    refine c_region ?_
    refine AOps.st 25 rfl rfl rfl (op_fieldAddr_c rfl tf_60_6 rfl rfl ?_)
    refine AOps.st 26 rfl rfl rfl (op_load_c1 rfl ta_58 rfl rfl ?_)
    refine AOps.st 27 rfl rfl rfl (op_callp (xs := [.tmp 26]) rfl rfl (HN) (by first | exact Les.refl _ | (repeat' (first | exact Les.refl _ | refine Les.cons ?_ ?_ | exact Le.refl _ | exact Le.own _ _ _ | exact Le.nil _ | refine Le.agg ?_))) ?_)
    refine AOps.st 5 rfl rfl rfl (op_assign rfl rfl ?_)
    refine AOps.nil ?_
    refine go_code ?_
    refine c_seq ?_
    refine c_region ?_
    refine AOps.st 6 rfl rfl rfl (op_assign rfl rfl ?_)
    refine AOps.nil ?_
    refine go_code ?_
    refine c_seq ?_
    refine c_seq ?_
    refine c_region ?_
    refine AOps.st 28 rfl rfl rfl (op_fieldAddr_c rfl tf_60_0 rfl rfl ?_)
    refine AOps.st 29 rfl rfl rfl (op_load_c1 rfl ta_3 rfl rfl ?_)
    refine AOps.st 30 rfl rfl rfl (op_eql rfl rfl rfl ?_); intro c30 h30
    refine AOps.nil ?_
    refine go_code ?_
    refine c_join (σ := List Txt) (fun zz => match zz with | o1 => [(1, .cptr (Ex.mk k s n ⟨tk, ts, tn, tks⟩ ks al bs p).cells), (3, .seq 11 (Ex.cellss (bs.map Bi.e))), (5, .seq 1 (strs N)), (6, .seq 1 (strs o1))]) (fun zz => match zz with | o1 => []) (fun zz => match zz with | o1 => o1 = (if k = 3 then [s] else [])) ?_ ?_
    · skip
      rcases bool_split h30 with ⟨rfl, g30⟩ | ⟨rfl, g30⟩
      · refine c_cond_f rfl ?_
        refine c_skip ?_
        refine go_lp ?_
        first | exact ⟨[s], by rw [if_pos g30], (by repeat' (first | exact SLe.nil _ | refine SLe.cons rfl ?_ ?_ | exact Le.refl _ | exact Le.own _ _ _ | exact Le.nil _)), (by first | exact MLe.none _ | exact MLe.refl _ | (repeat' (first | exact MLe.nil | exact MLe.refl _ | refine MLe.cons _ ?_ | refine MLe.drop _ ?_)))⟩ | exact ⟨[], by rw [if_neg g30], (by repeat' (first | exact SLe.nil _ | refine SLe.cons rfl ?_ ?_ | exact Le.refl _ | exact Le.own _ _ _ | exact Le.nil _)), (by first | exact MLe.none _ | exact MLe.refl _ | (repeat' (first | exact MLe.nil | exact MLe.refl _ | refine MLe.cons _ ?_ | refine MLe.drop _ ?_)))⟩
      · refine c_cond_t rfl ?_
        refine c_region ?_
        refine AOps.st 31 rfl rfl rfl (op_fieldAddr_c rfl tf_60_1 rfl rfl ?_)
        refine AOps.st 32 rfl rfl rfl (op_load_c1 rfl ta_9 rfl rfl ?_)
        refine AOps.st 33 rfl rfl rfl (op_buildSlice (xs := [.tmp 32]) el_27 rfl rfl rfl rfl rfl rfl (Nat.le_of_ble_eq_true rfl) ?_)
        refine AOps.st 6 rfl rfl rfl (op_assign rfl rfl ?_)
        refine AOps.nil ?_
        refine go_lp ?_
        first | exact ⟨[s], by rw [if_pos g30], (by repeat' (first | exact SLe.nil _ | refine SLe.cons rfl ?_ ?_ | exact Le.refl _ | exact Le.own _ _ _ | exact Le.nil _)), (by first | exact MLe.none _ | exact MLe.refl _ | (repeat' (first | exact MLe.nil | exact MLe.refl _ | refine MLe.cons _ ?_ | refine MLe.drop _ ?_)))⟩ | exact ⟨[], by rw [if_neg g30], (by repeat' (first | exact SLe.nil _ | refine SLe.cons rfl ?_ ?_ | exact Le.refl _ | exact Le.own _ _ _ | exact Le.nil _)), (by first | exact MLe.none _ | exact MLe.refl _ | (repeat' (first | exact MLe.nil | exact MLe.refl _ | refine MLe.cons _ ?_ | refine MLe.drop _ ?_)))⟩
    rintro o1 hI
    try dsimp only at hI ⊢
    have ho1 := hI
    have hlo : o1.length ≤ 1 := by rw [ho1]; split <;> simp
    rw [← ho1] at hX
    refine go_code ?_
    refine c_seq ?_
    refine c_seq ?_
    refine c_region ?_
    refine AOps.st 34 rfl rfl rfl (op_fieldAddr_c rfl tf_60_0 rfl rfl ?_)
    refine AOps.st 35 rfl rfl rfl (op_load_c1 rfl ta_3 rfl rfl ?_)
    refine AOps.nil ?_
    refine go_code ?_
    refine c_join (σ := List Txt) (fun zz => match zz with | o2 => [(1, .cptr (Ex.mk k s n ⟨tk, ts, tn, tks⟩ ks al bs p).cells), (6, .seq 1 (strs o2))]) (fun zz => match zz with | o2 => []) (fun zz => match zz with | o2 => o2 = X ∧ o2.length ≤ 1 + Ex.ws ks + Bi.ws bs) ?_ ?_
    · skip
      refine c_block ?_
      refine c_seq ?_
      refine c_region ?_
      refine AOps.st 45 rfl rfl rfl (op_eql rfl rfl rfl ?_); intro c45 h45
      refine AOps.st 44 rfl rfl rfl (op_assign rfl rfl ?_)
      refine AOps.nil ?_
      refine go_code ?_
      rcases bool_split h45 with ⟨rfl, g45⟩ | ⟨rfl, g45⟩
      · refine c_cond_f rfl ?_
        refine c_seq ?_
        refine c_region ?_
        refine AOps.st 64 rfl rfl rfl (op_eql rfl rfl rfl ?_); intro c64 h64
        refine AOps.st 63 rfl rfl rfl (op_assign rfl rfl ?_)
        refine AOps.nil ?_
        refine go_code ?_
        rcases bool_split h64 with ⟨rfl, g64⟩ | ⟨rfl, g64⟩
        · refine c_cond_f rfl ?_
          have j1 := jn_len o1 K
          have j3 := jn_len (jn o1 K) B
          refine c_region ?_
          refine AOps.st 36 rfl rfl rfl (op_move rfl rfl ?_)
          refine AOps.st 37 rfl rfl rfl (op_fieldAddr_c rfl tf_60_4 rfl rfl ?_)
          refine AOps.st 38 rfl rfl rfl (op_load_c1 rfl ta_56 rfl rfl ?_)
          refine AOps.st 39 rfl rfl rfl (op_callp (xs := [.tmp 38]) rfl rfl (HK) (by first | exact Les.refl _ | (repeat' (first | exact Les.refl _ | refine Les.cons ?_ ?_ | exact Le.refl _ | exact Le.own _ _ _ | exact Le.nil _ | refine Le.agg ?_))) ?_)
          refine AOps.st 40 rfl rfl rfl (op_callp (xs := [.tmp 36, .tmp 39]) rfl rfl ((Join_c o1 K (by omega)).pure) (by first | exact Les.refl _ | (repeat' (first | exact Les.refl _ | refine Les.cons ?_ ?_ | exact Le.refl _ | exact Le.own _ _ _ | exact Le.nil _ | refine Le.agg ?_))) ?_)
          refine AOps.st 41 rfl rfl rfl (op_move rfl rfl ?_)
          refine AOps.st 42 rfl rfl rfl (op_callp (xs := [.tmp 41]) rfl rfl (HB) (by first | exact Les.refl _ | (repeat' (first | exact Les.refl _ | refine Les.cons ?_ ?_ | exact Le.refl _ | exact Le.own _ _ _ | exact Le.nil _ | refine Le.agg ?_))) ?_)
          refine AOps.st 43 rfl rfl rfl (op_callp (xs := [.tmp 40, .tmp 42]) rfl rfl ((Join_c (jn o1 K) B (by omega)).pure) (by first | exact Les.refl _ | (repeat' (first | exact Les.refl _ | refine Les.cons ?_ ?_ | exact Le.refl _ | exact Le.own _ _ _ | exact Le.nil _ | refine Le.agg ?_))) ?_)
          refine AOps.st 6 rfl rfl rfl (op_assign rfl rfl ?_)
          refine AOps.nil ?_
          refine go_blk ?_
          refine go_lp ?_
          first | exact ⟨jn (jn o1 f1) (wo K N), ⟨by rw [hX, if_pos (by omega), hf1], by omega⟩, (by repeat' (first | exact SLe.nil _ | refine SLe.cons rfl ?_ ?_ | exact Le.refl _ | exact Le.own _ _ _ | exact Le.nil _)), (by first | exact MLe.none _ | exact MLe.refl _ | (repeat' (first | exact MLe.nil | exact MLe.refl _ | refine MLe.cons _ ?_ | refine MLe.drop _ ?_)))⟩ | exact ⟨jn (jn o1 (wo K [s])) B, ⟨by rw [hX, if_neg (by omega), if_pos (by omega)], by omega⟩, (by repeat' (first | exact SLe.nil _ | refine SLe.cons rfl ?_ ?_ | exact Le.refl _ | exact Le.own _ _ _ | exact Le.nil _)), (by first | exact MLe.none _ | exact MLe.refl _ | (repeat' (first | exact MLe.nil | exact MLe.refl _ | refine MLe.cons _ ?_ | refine MLe.drop _ ?_)))⟩ | exact ⟨jn (jn o1 K) B, ⟨by rw [hX, if_neg (by omega), if_neg (by omega)], by omega⟩, (by repeat' (first | exact SLe.nil _ | refine SLe.cons rfl ?_ ?_ | exact Le.refl _ | exact Le.own _ _ _ | exact Le.nil _)), (by first | exact MLe.none _ | exact MLe.refl _ | (repeat' (first | exact MLe.nil | exact MLe.refl _ | refine MLe.cons _ ?_ | refine MLe.drop _ ?_)))⟩
        · refine c_cond_t rfl ?_
          have j1 := jn_len o1 (wo K [s])
          have j2 := wo_len K [s]
          have j3 := jn_len (jn o1 (wo K [s])) B
          refine c_drawn tmix rfl ?_
          refine DOps.st 65 rfl rfl (op_move rfl rfl ⟨rfl, rfl⟩) ?_
          refine DOps.st 66 rfl rfl (op_fieldAddr_c rfl tf_60_4 rfl rfl ⟨rfl, rfl⟩) ?_
          refine DOps.st 67 rfl rfl (op_load_c1 rfl ta_56 rfl rfl ⟨rfl, rfl⟩) ?_
          refine DOps.st 68 rfl rfl (op_callp (xs := [.tmp 67]) rfl rfl (HK) (by first | exact Les.refl _ | (repeat' (first | exact Les.refl _ | refine Les.cons ?_ ?_ | exact Le.refl _ | exact Le.own _ _ _ | exact Le.nil _ | refine Le.agg ?_))) ⟨rfl, rfl⟩) ?_
          refine DOps.st 69 rfl rfl (op_fieldAddr_c rfl tf_60_1 rfl rfl ⟨rfl, rfl⟩) ?_
          refine DOps.st 70 rfl rfl (op_load_c1 rfl ta_9 rfl rfl ⟨rfl, rfl⟩) ?_
          refine DOps.st 71 rfl rfl (op_buildSlice (xs := [.tmp 70]) el_27 rfl rfl rfl rfl rfl rfl (Nat.le_of_ble_eq_true rfl) ⟨rfl, rfl⟩) ?_
          refine DOps.st 72 rfl rfl (op_callp (xs := [.tmp 68, .tmp 71]) rfl rfl ((Without_c K [s] (by omega)).pure) (by first | exact Les.refl _ | (repeat' (first | exact Les.refl _ | refine Les.cons ?_ ?_ | exact Le.refl _ | exact Le.own _ _ _ | exact Le.nil _ | refine Le.agg ?_))) ⟨rfl, rfl⟩) ?_
          refine DOps.st 73 rfl rfl (op_callp (xs := [.tmp 65, .tmp 72]) rfl rfl ((Join_c o1 (wo K [s]) (by omega)).pure) (by first | exact Les.refl _ | (repeat' (first | exact Les.refl _ | refine Les.cons ?_ ?_ | exact Le.refl _ | exact Le.own _ _ _ | exact Le.nil _ | refine Le.agg ?_))) ⟨rfl, rfl⟩) ?_
          refine DOps.st 74 rfl rfl (op_move rfl rfl ⟨rfl, rfl⟩) ?_
          refine DOps.st 75 rfl rfl (op_callp (xs := [.tmp 74]) rfl rfl (HB) (by first | exact Les.refl _ | (repeat' (first | exact Les.refl _ | refine Les.cons ?_ ?_ | exact Le.refl _ | exact Le.own _ _ _ | exact Le.nil _ | refine Le.agg ?_))) ⟨rfl, rfl⟩) ?_
          refine DOps.st 76 rfl rfl (op_callp (xs := [.tmp 73, .tmp 75]) rfl rfl ((Join_c (jn o1 (wo K [s])) B (by omega)).pure) (by first | exact Les.refl _ | (repeat' (first | exact Les.refl _ | refine Les.cons ?_ ?_ | exact Le.refl _ | exact Le.own _ _ _ | exact Le.nil _ | refine Le.agg ?_))) ⟨rfl, rfl⟩) ?_
          refine DOps.st 6 rfl rfl (op_assign rfl rfl ⟨rfl, rfl⟩) ?_
          show AGo _ _ _ _ _ _ _
          refine go_blk ?_
          refine go_lp ?_
          first | exact ⟨jn (jn o1 f1) (wo K N), ⟨by rw [hX, if_pos (by omega), hf1], by omega⟩, (by repeat' (first | exact SLe.nil _ | refine SLe.cons rfl ?_ ?_ | exact Le.refl _ | exact Le.own _ _ _ | exact Le.nil _)), (by first | exact MLe.none _ | exact MLe.refl _ | (repeat' (first | exact MLe.nil | exact MLe.refl _ | refine MLe.cons _ ?_ | refine MLe.drop _ ?_)))⟩ | exact ⟨jn (jn o1 (wo K [s])) B, ⟨by rw [hX, if_neg (by omega), if_pos (by omega)], by omega⟩, (by repeat' (first | exact SLe.nil _ | refine SLe.cons rfl ?_ ?_ | exact Le.refl _ | exact Le.own _ _ _ | exact Le.nil _)), (by first | exact MLe.none _ | exact MLe.refl _ | (repeat' (first | exact MLe.nil | exact MLe.refl _ | refine MLe.cons _ ?_ | refine MLe.drop _ ?_)))⟩ | exact ⟨jn (jn o1 K) B, ⟨by rw [hX, if_neg (by omega), if_neg (by omega)], by omega⟩, (by repeat' (first | exact SLe.nil _ | refine SLe.cons rfl ?_ ?_ | exact Le.refl _ | exact Le.own _ _ _ | exact Le.nil _)), (by first | exact MLe.none _ | exact MLe.refl _ | (repeat' (first | exact MLe.nil | exact MLe.refl _ | refine MLe.cons _ ?_ | refine MLe.drop _ ?_)))⟩
      · refine c_cond_t rfl ?_
        refine c_seq ?_
        refine c_region ?_
        refine AOps.st 46 rfl rfl rfl (op_move rfl rfl ?_)
        refine AOps.st 47 rfl rfl rfl (op_callp (xs := [.tmp 46]) rfl rfl (HB) (by first | exact Les.refl _ | (repeat' (first | exact Les.refl _ | refine Les.cons ?_ ?_ | exact Le.refl _ | exact Le.own _ _ _ | exact Le.nil _ | refine Le.agg ?_))) ?_)
        refine AOps.st 7 rfl rfl rfl (op_assign rfl rfl ?_)
        refine AOps.nil ?_
        refine go_code ?_
        refine c_seq ?_
        refine c_seq ?_
        refine c_region ?_
        refine AOps.st 48 rfl rfl rfl (op_fieldAddr_c rfl tf_60_2 rfl rfl ?_)
        refine AOps.st 49 rfl rfl rfl (op_load_c1 rfl ta_2 rfl rfl ?_)
        refine AOps.st 50 rfl rfl rfl (op_eql rfl rfl rfl ?_); intro c50 h50
        refine AOps.nil ?_
        refine go_code ?_
        refine c_join (σ := List Txt) (fun zz => match zz with | f1 => [(1, .cptr (Ex.mk k s n ⟨tk, ts, tn, tks⟩ ks al bs p).cells), (3, .seq 11 (Ex.cellss (bs.map Bi.e))), (5, .seq 1 (strs N)), (6, .seq 1 (strs o1)), (7, .seq 1 (strs f1))]) (fun zz => match zz with | f1 => []) (fun zz => match zz with | f1 => f1 = (if n = 1 then wo B N else B)) ?_ ?_
        · skip
          rcases bool_split h50 with ⟨rfl, g50⟩ | ⟨rfl, g50⟩
          · refine c_cond_f rfl ?_
            refine c_skip ?_
            refine go_lp ?_
            first | exact ⟨wo B N, by rw [if_pos g50], (by repeat' (first | exact SLe.nil _ | refine SLe.cons rfl ?_ ?_ | exact Le.refl _ | exact Le.own _ _ _ | exact Le.nil _)), (by first | exact MLe.none _ | exact MLe.refl _ | (repeat' (first | exact MLe.nil | exact MLe.refl _ | refine MLe.cons _ ?_ | refine MLe.drop _ ?_)))⟩ | exact ⟨B, by rw [if_neg g50], (by repeat' (first | exact SLe.nil _ | refine SLe.cons rfl ?_ ?_ | exact Le.refl _ | exact Le.own _ _ _ | exact Le.nil _)), (by first | exact MLe.none _ | exact MLe.refl _ | (repeat' (first | exact MLe.nil | exact MLe.refl _ | refine MLe.cons _ ?_ | refine MLe.drop _ ?_)))⟩
          · refine c_cond_t rfl ?_
            refine c_region ?_
            refine AOps.st 51 rfl rfl rfl (op_move rfl rfl ?_)
            refine AOps.st 52 rfl rfl rfl (op_move rfl rfl ?_)
            refine AOps.st 53 rfl rfl rfl (op_callp (xs := [.tmp 51, .tmp 52]) rfl rfl ((Without_c B N (by omega)).pure) (by first | exact Les.refl _ | (repeat' (first | exact Les.refl _ | refine Les.cons ?_ ?_ | exact Le.refl _ | exact Le.own _ _ _ | exact Le.nil _ | refine Le.agg ?_))) ?_)
            refine AOps.st 7 rfl rfl rfl (op_assign rfl rfl ?_)
            refine AOps.nil ?_
            refine go_lp ?_
            first | exact ⟨wo B N, by rw [if_pos g50], (by repeat' (first | exact SLe.nil _ | refine SLe.cons rfl ?_ ?_ | exact Le.refl _ | exact Le.own _ _ _ | exact Le.nil _)), (by first | exact MLe.none _ | exact MLe.refl _ | (repeat' (first | exact MLe.nil | exact MLe.refl _ | refine MLe.cons _ ?_ | refine MLe.drop _ ?_)))⟩ | exact ⟨B, by rw [if_neg g50], (by repeat' (first | exact SLe.nil _ | refine SLe.cons rfl ?_ ?_ | exact Le.refl _ | exact Le.own _ _ _ | exact Le.nil _)), (by first | exact MLe.none _ | exact MLe.refl _ | (repeat' (first | exact MLe.nil | exact MLe.refl _ | refine MLe.cons _ ?_ | refine MLe.drop _ ?_)))⟩
        rintro f1 hI
        try dsimp only at hI ⊢
        have hf1 := hI
        have hlf : f1.length ≤ B.length := by
          rw [hf1]; split
          · exact wo_len _ _
          · exact Nat.le_refl _
        have j1 := jn_len o1 f1
        have j2 := wo_len K N
        have j3 := jn_len (jn o1 f1) (wo K N)
        refine go_code ?_
        refine c_drawn tmix rfl ?_
        refine DOps.st 54 rfl rfl (op_move rfl rfl ⟨rfl, rfl⟩) ?_
        refine DOps.st 55 rfl rfl (op_move rfl rfl ⟨rfl, rfl⟩) ?_
        refine DOps.st 56 rfl rfl (op_callp (xs := [.tmp 54, .tmp 55]) rfl rfl ((Join_c o1 f1 (by omega)).pure) (by first | exact Les.refl _ | (repeat' (first | exact Les.refl _ | refine Les.cons ?_ ?_ | exact Le.refl _ | exact Le.own _ _ _ | exact Le.nil _ | refine Le.agg ?_))) ⟨rfl, rfl⟩) ?_
        refine DOps.st 57 rfl rfl (op_fieldAddr_c rfl tf_60_4 rfl rfl ⟨rfl, rfl⟩) ?_
        refine DOps.st 58 rfl rfl (op_load_c1 rfl ta_56 rfl rfl ⟨rfl, rfl⟩) ?_
        refine DOps.st 59 rfl rfl (op_callp (xs := [.tmp 58]) rfl rfl (HK) (by first | exact Les.refl _ | (repeat' (first | exact Les.refl _ | refine Les.cons ?_ ?_ | exact Le.refl _ | exact Le.own _ _ _ | exact Le.nil _ | refine Le.agg ?_))) ⟨rfl, rfl⟩) ?_
        refine DOps.st 60 rfl rfl (op_move rfl rfl ⟨rfl, rfl⟩) ?_
        refine DOps.st 61 rfl rfl (op_callp (xs := [.tmp 59, .tmp 60]) rfl rfl ((Without_c K N (by omega)).pure) (by first | exact Les.refl _ | (repeat' (first | exact Les.refl _ | refine Les.cons ?_ ?_ | exact Le.refl _ | exact Le.own _ _ _ | exact Le.nil _ | refine Le.agg ?_))) ⟨rfl, rfl⟩) ?_
        refine DOps.st 62 rfl rfl (op_callp (xs := [.tmp 56, .tmp 61]) rfl rfl ((Join_c (jn o1 f1) (wo K N) (by omega)).pure) (by first | exact Les.refl _ | (repeat' (first | exact Les.refl _ | refine Les.cons ?_ ?_ | exact Le.refl _ | exact Le.own _ _ _ | exact Le.nil _ | refine Le.agg ?_))) ⟨rfl, rfl⟩) ?_
        refine DOps.st 6 rfl rfl (op_assign rfl rfl ⟨rfl, rfl⟩) ?_
        show AGo _ _ _ _ _ _ _
        refine go_blk ?_
        refine go_lp ?_
        first | exact ⟨jn (jn o1 f1) (wo K N), ⟨by rw [hX, if_pos (by omega), hf1], by omega⟩, (by repeat' (first | exact SLe.nil _ | refine SLe.cons rfl ?_ ?_ | exact Le.refl _ | exact Le.own _ _ _ | exact Le.nil _)), (by first | exact MLe.none _ | exact MLe.refl _ | (repeat' (first | exact MLe.nil | exact MLe.refl _ | refine MLe.cons _ ?_ | refine MLe.drop _ ?_)))⟩ | exact ⟨jn (jn o1 (wo K [s])) B, ⟨by rw [hX, if_neg (by omega), if_pos (by omega)], by omega⟩, (by repeat' (first | exact SLe.nil _ | refine SLe.cons rfl ?_ ?_ | exact Le.refl _ | exact Le.own _ _ _ | exact Le.nil _)), (by first | exact MLe.none _ | exact MLe.refl _ | (repeat' (first | exact MLe.nil | exact MLe.refl _ | refine MLe.cons _ ?_ | refine MLe.drop _ ?_)))⟩ | exact ⟨jn (jn o1 K) B, ⟨by rw [hX, if_neg (by omega), if_neg (by omega)], by omega⟩, (by repeat' (first | exact SLe.nil _ | refine SLe.cons rfl ?_ ?_ | exact Le.refl _ | exact Le.own _ _ _ | exact Le.nil _)), (by first | exact MLe.none _ | exact MLe.refl _ | (repeat' (first | exact MLe.nil | exact MLe.refl _ | refine MLe.cons _ ?_ | refine MLe.drop _ ?_)))⟩
    rintro o2 hI
    try dsimp only at hI ⊢
    obtain ⟨ho2, hl2⟩ := hI
    refine go_code ?_
    refine c_seq ?_
    refine c_seq ?_
    refine c_region ?_
    refine AOps.st 8 rfl rfl rfl (op_assign rfl rfl ?_)
    refine AOps.nil ?_
    refine go_code ?_
    refine c_block ?_
    refine c_loop (σ := Nat × List Txt) (fun zz => match zz with | (i, o) => [(1, .cptr (Ex.mk k s n ⟨tk, ts, tn, tks⟩ ks al bs p).cells), (6, .seq 1 (strs o)), (8, .val (.int .i64 i))]) (fun zz => match zz with | (i, o) => []) (fun zz => match zz with | (i, o) => i ≤ al.length ∧ o = Al.rfs (al.take i) o2) (fun zz => match zz with | (i, o) => al.length - i) ((0, o2)) ?_ ?_ ?_ ?_
    · exact ⟨by omega, by simp [Al.rfs]⟩
    · exact (by repeat' (first | exact SLe.nil _ | refine SLe.cons rfl ?_ ?_ | exact Le.refl _ | exact Le.own _ _ _ | exact Le.nil _))
    · exact (by first | exact MLe.none _ | exact MLe.refl _ | (repeat' (first | exact MLe.nil | exact MLe.refl _ | refine MLe.cons _ ?_ | refine MLe.drop _ ?_)))
    rintro ⟨i, o⟩ hI
    try dsimp only at hI ⊢
    obtain ⟨hi, ho⟩ := hI
    refine c_seq ?_
    refine c_seq ?_
    refine c_region ?_
    refine AOps.st 77 rfl rfl rfl (op_move rfl rfl ?_)
    refine AOps.st 78 rfl rfl rfl (op_fieldAddr_c rfl tf_60_5 rfl rfl ?_)
    refine AOps.st 79 rfl rfl rfl (op_load_c1 rfl ta_57 rfl rfl ?_)
    first | (refine AOps.st 80 rfl rfl rfl (op_len rfl tu_57 rfl (.seq _ _) (fun n80 => ?_))) | (refine AOps.st 80 rfl rfl rfl (op_len rfl tu_57 rfl (.own _ _ _) (fun n80 => ?_))) | (refine AOps.st 80 rfl rfl rfl (op_len rfl tu_57 rfl (.nil 0) (fun n80 => ?_))) | (refine AOps.st 80 rfl rfl rfl (op_len_arr rfl tu_57 rfl ?_))
    refine AOps.st 81 rfl rfl rfl (op_lss rfl rfl rfl ?_); intro c81 h81
    refine AOps.nil ?_
    refine go_code ?_
    rcases bool_split h81 with ⟨rfl, g81⟩ | ⟨rfl, g81⟩
    · refine c_cond_f rfl ?_
      refine c_exit ?_
      refine x_code ?_
      refine x_lp ?_
      refine x_here ?_
      refine go_code ?_
      refine c_seq ?_
      refine c_region ?_
      refine AOps.st 101 rfl rfl rfl (op_move rfl rfl ?_)
      refine AOps.st 2 rfl rfl rfl (op_assign rfl rfl ?_)
      refine AOps.nil ?_
      refine go_code ?_
      refine c_ret ?_
      refine out_tmp rfl rfl (Le.seq_eq ?_) (by first | exact MLe.none _ | exact MLe.refl _ | (repeat' (first | exact MLe.nil | exact MLe.refl _ | refine MLe.cons _ ?_ | refine MLe.drop _ ?_))) ⟨rfl, rfl⟩
      rw [ho, List.take_of_length_le (by omega), ho2]
    · refine c_cond_t rfl ?_
      refine c_skip ?_
      refine go_code ?_
      refine c_seq ?_
      refine c_block ?_
      obtain ⟨⟨⟨qk, qs, qn, qks, qp⟩, ⟨yk, yt, yn, ⟨ytk, yts, ytn, ytks⟩, yks, yal, ybs, yp⟩⟩, hx⟩ := get_some (l := al) (i := i) (by omega)
      have hcx := Al.cellss_get hx
      have hIH := IHa _ (List.mem_of_getElem? hx)
      have e := Al.rfs_take (out := o2) hx
      have l1 := Al.rfs_len (al.take i) o2
      have l3 := (sum_at Al.w hx).1
      have l4 := Al.e_w (List.mem_of_getElem? hx)
      rw [← Al.ws_map, ← Al.ws_map] at l3
      rw [← ho] at l1 e
      rw [Al.rf] at e
      rw [Al.w] at l3
      rw [Al.e] at hIH l4
      rw [Al.q] at l4
      have l2 := Ex.rf_len ⟨yk, yt, yn, ⟨ytk, yts, ytn, ytks⟩, yks, yal, ybs, yp⟩
      have HQ := (rNames_c ⟨qk, qs, qn, qks, qp⟩ (by omega)).pure
      generalize Ex.rf ⟨yk, yt, yn, ⟨ytk, yts, ytn, ytks⟩, yks, yal, ybs, yp⟩ = r at *
      generalize Pa.names ⟨qk, qs, qn, qks, qp⟩ = nq at *
      have l5 := wo_len r nq
      have l6 := jn_len o (wo r nq)
      refine c_drawn tmix rfl ?_
      refine DOps.st 84 rfl rfl (op_move rfl rfl ⟨rfl, rfl⟩) ?_
      refine DOps.st 85 rfl rfl (op_fieldAddr_c rfl tf_60_5 rfl rfl ⟨rfl, rfl⟩) ?_
      refine DOps.st 86 rfl rfl (op_load_c1 rfl ta_57 rfl rfl ⟨rfl, rfl⟩) ?_
      refine DOps.st 87 rfl rfl (op_move rfl rfl ⟨rfl, rfl⟩) ?_
      first | (refine DOps.st 88 rfl rfl (op_index rfl te_57 rfl (.seq _ _) rfl rfl (by assumption) ⟨rfl, rfl⟩) ?_) | (refine DOps.st 88 rfl rfl (op_index (i := 0) rfl te_57 rfl (.seq _ _) rfl rfl (by first | rfl | assumption) ⟨rfl, rfl⟩) ?_) | (refine DOps.st 88 rfl rfl (op_index (i := 1) rfl te_57 rfl (.seq _ _) rfl rfl (by first | rfl | assumption) ⟨rfl, rfl⟩) ?_) | (refine DOps.st 88 rfl rfl (op_index rfl te_57 rfl (.own _ _ _) rfl rfl (by assumption) ⟨rfl, rfl⟩) ?_) | (refine DOps.st 88 rfl rfl (op_index (i := 0) rfl te_57 rfl (.own _ _ _) rfl rfl (by first | rfl | assumption) ⟨rfl, rfl⟩) ?_) | (refine DOps.st 88 rfl rfl (op_index (i := 1) rfl te_57 rfl (.own _ _ _) rfl rfl (by first | rfl | assumption) ⟨rfl, rfl⟩) ?_) | (refine DOps.st 88 rfl rfl (op_index_arr rfl te_57 rfl rfl rfl (by omega) ⟨rfl, rfl⟩) ?_)
      first | (refine DOps.st 89 rfl rfl (op_fieldAddr_m rfl tf_70_1 rfl ⟨rfl, rfl⟩) ?_) | (refine DOps.st 89 rfl rfl (op_fieldAddr_c rfl tf_70_1 rfl rfl ⟨rfl, rfl⟩) ?_)
      first | (refine DOps.st 90 rfl rfl (op_load_m (cs' := [_, _, _, _, _, _, _, _, _, _, _]) (i := 0) rfl ta_60 rfl rfl rfl rfl ⟨rfl, rfl⟩) ?_) | (refine DOps.st 90 rfl rfl (op_load_m (cs' := [_, _, _, _, _, _, _, _, _, _, _]) (i := 1) rfl ta_60 rfl rfl rfl rfl ⟨rfl, rfl⟩) ?_) | (refine DOps.st 90 rfl rfl (op_load_m (cs' := [_, _, _, _, _, _, _, _, _, _, _]) (i := 2) rfl ta_60 rfl rfl rfl rfl ⟨rfl, rfl⟩) ?_) | (refine DOps.st 90 rfl rfl (op_load_m (cs' := [_, _, _, _, _, _, _, _, _, _, _]) (i := 3) rfl ta_60 rfl rfl rfl rfl ⟨rfl, rfl⟩) ?_) | (refine DOps.st 90 rfl rfl (op_load_m (cs' := [_, _, _, _, _, _, _, _, _, _, _]) (i := 4) rfl ta_60 rfl rfl rfl rfl ⟨rfl, rfl⟩) ?_) | (refine DOps.st 90 rfl rfl (op_load_m (cs' := [_, _, _, _, _, _, _, _, _, _, _]) (i := 5) rfl ta_60 rfl rfl rfl rfl ⟨rfl, rfl⟩) ?_) | (refine DOps.st 90 rfl rfl (op_load_c (cs' := [_, _, _, _, _, _, _, _, _, _, _]) rfl ta_60 rfl rfl rfl ⟨rfl, rfl⟩) ?_)
      refine DOps.st 91 rfl rfl (op_callp (xs := [.tmp 90]) rfl rfl (hIH) (by first | exact Les.refl _ | (repeat' (first | exact Les.refl _ | refine Les.cons ?_ ?_ | exact Le.refl _ | exact Le.own _ _ _ | exact Le.nil _ | refine Le.agg ?_))) ⟨rfl, rfl⟩) ?_
      refine DOps.st 92 rfl rfl (op_fieldAddr_c rfl tf_60_5 rfl rfl ⟨rfl, rfl⟩) ?_
      refine DOps.st 93 rfl rfl (op_load_c1 rfl ta_57 rfl rfl ⟨rfl, rfl⟩) ?_
      refine DOps.st 94 rfl rfl (op_move rfl rfl ⟨rfl, rfl⟩) ?_
      first | (refine DOps.st 95 rfl rfl (op_index rfl te_57 rfl (.seq _ _) rfl rfl (by assumption) ⟨rfl, rfl⟩) ?_) | (refine DOps.st 95 rfl rfl (op_index (i := 0) rfl te_57 rfl (.seq _ _) rfl rfl (by first | rfl | assumption) ⟨rfl, rfl⟩) ?_) | (refine DOps.st 95 rfl rfl (op_index (i := 1) rfl te_57 rfl (.seq _ _) rfl rfl (by first | rfl | assumption) ⟨rfl, rfl⟩) ?_) | (refine DOps.st 95 rfl rfl (op_index rfl te_57 rfl (.own _ _ _) rfl rfl (by assumption) ⟨rfl, rfl⟩) ?_) | (refine DOps.st 95 rfl rfl (op_index (i := 0) rfl te_57 rfl (.own _ _ _) rfl rfl (by first | rfl | assumption) ⟨rfl, rfl⟩) ?_) | (refine DOps.st 95 rfl rfl (op_index (i := 1) rfl te_57 rfl (.own _ _ _) rfl rfl (by first | rfl | assumption) ⟨rfl, rfl⟩) ?_) | (refine DOps.st 95 rfl rfl (op_index_arr rfl te_57 rfl rfl rfl (by omega) ⟨rfl, rfl⟩) ?_)
      first | (refine DOps.st 96 rfl rfl (op_fieldAddr_m rfl tf_70_0 rfl ⟨rfl, rfl⟩) ?_) | (refine DOps.st 96 rfl rfl (op_fieldAddr_c rfl tf_70_0 rfl rfl ⟨rfl, rfl⟩) ?_)
      first | (refine DOps.st 97 rfl rfl (op_load_m (cs' := [_, _, _, _, _]) (i := 0) rfl ta_68 rfl rfl rfl rfl ⟨rfl, rfl⟩) ?_) | (refine DOps.st 97 rfl rfl (op_load_m (cs' := [_, _, _, _, _]) (i := 1) rfl ta_68 rfl rfl rfl rfl ⟨rfl, rfl⟩) ?_) | (refine DOps.st 97 rfl rfl (op_load_m (cs' := [_, _, _, _, _]) (i := 2) rfl ta_68 rfl rfl rfl rfl ⟨rfl, rfl⟩) ?_) | (refine DOps.st 97 rfl rfl (op_load_m (cs' := [_, _, _, _, _]) (i := 3) rfl ta_68 rfl rfl rfl rfl ⟨rfl, rfl⟩) ?_) | (refine DOps.st 97 rfl rfl (op_load_m (cs' := [_, _, _, _, _]) (i := 4) rfl ta_68 rfl rfl rfl rfl ⟨rfl, rfl⟩) ?_) | (refine DOps.st 97 rfl rfl (op_load_m (cs' := [_, _, _, _, _]) (i := 5) rfl ta_68 rfl rfl rfl rfl ⟨rfl, rfl⟩) ?_) | (refine DOps.st 97 rfl rfl (op_load_c (cs' := [_, _, _, _, _]) rfl ta_68 rfl rfl rfl ⟨rfl, rfl⟩) ?_)
      refine DOps.st 98 rfl rfl (op_callp (xs := [.tmp 97]) rfl rfl (HQ) (by first | exact Les.refl _ | (repeat' (first | exact Les.refl _ | refine Les.cons ?_ ?_ | exact Le.refl _ | exact Le.own _ _ _ | exact Le.nil _ | refine Le.agg ?_))) ⟨rfl, rfl⟩) ?_
      refine DOps.st 99 rfl rfl (op_callp (xs := [.tmp 91, .tmp 98]) rfl rfl ((Without_c r nq (by omega)).pure) (by first | exact Les.refl _ | (repeat' (first | exact Les.refl _ | refine Les.cons ?_ ?_ | exact Le.refl _ | exact Le.own _ _ _ | exact Le.nil _ | refine Le.agg ?_))) ⟨rfl, rfl⟩) ?_
      refine DOps.st 100 rfl rfl (op_callp (xs := [.tmp 84, .tmp 99]) rfl rfl ((Join_c o (wo r nq) (by omega)).pure) (by first | exact Les.refl _ | (repeat' (first | exact Les.refl _ | refine Les.cons ?_ ?_ | exact Le.refl _ | exact Le.own _ _ _ | exact Le.nil _ | refine Le.agg ?_))) ⟨rfl, rfl⟩) ?_
      refine DOps.st 6 rfl rfl (op_assign rfl rfl ⟨rfl, rfl⟩) ?_
      show AGo _ _ _ _ _ _ _
      refine go_blk ?_
      refine go_code ?_
      refine c_region ?_
      refine AOps.st 82 rfl rfl rfl (op_move rfl rfl ?_)
      first | (refine AOps.st 83 rfl rfl rfl (op_add rfl rfl rfl (IntWalk.i64_in _ (by omega)) ?_)) | (refine AOps.st 83 rfl rfl rfl (op_add rfl rfl rfl rfl ?_))
      refine AOps.st 8 rfl rfl rfl (op_assign rfl rfl ?_)
      refine AOps.nil ?_
      refine go_lp ?_
      exact ⟨(i + 1, jn o (wo r nq)), ⟨by dsimp only; omega, e.symm⟩, by simp; omega, (by repeat' (first | exact SLe.nil _ | refine SLe.cons rfl ?_ ?_ | exact Le.refl _ | exact Le.own _ _ _ | exact Le.nil _)), (by first | exact MLe.none _ | exact MLe.refl _ | (repeat' (first | exact MLe.nil | exact MLe.refl _ | refine MLe.cons _ ?_ | refine MLe.drop _ ?_)))⟩
  · refine c_cond_t rfl ?_
    refine c_skip ?_
    refine go_code ?_
    refine c_seq ?_
    refine c_block ?_
    obtain ⟨⟨ys, ⟨yk, yt, yn, ⟨ytk, yts, ytn, ytks⟩, yks, yal, ybs, yp⟩, yq⟩, hx⟩ := get_some (l := bs) (i := i) (by omega)
    have hcx := Bi.cellss_get hx
    have e : Ex.cellss ((bs.take i).map Bi.e) ++ [Ex.cells ⟨yk, yt, yn, ⟨ytk, yts, ytn, ytks⟩, yks, yal, ybs, yp⟩] = Ex.cellss ((bs.take (i + 1)).map Bi.e) := by
      rw [List.take_add_one, hx]; simp [Ex.cellss_map, Bi.e]
    have el : (Ex.cellss ((bs.take i).map Bi.e)).length ≤ bs.length := by
      rw [Ex.cellss_len]; simp; omega
    refine c_region ?_
    refine AOps.st 16 rfl rfl rfl (op_move rfl rfl ?_)
    refine AOps.st 17 rfl rfl rfl (op_fieldAddr_c rfl tf_60_6 rfl rfl ?_)
    refine AOps.st 18 rfl rfl rfl (op_load_c1 rfl ta_58 rfl rfl ?_)
    refine AOps.st 19 rfl rfl rfl (op_move rfl rfl ?_)
    first | (refine AOps.st 20 rfl rfl rfl (op_index rfl te_58 rfl (.seq _ _) rfl rfl (by assumption) ?_)) | (refine AOps.st 20 rfl rfl rfl (op_index (i := 0) rfl te_58 rfl (.seq _ _) rfl rfl (by first | rfl | assumption) ?_)) | (refine AOps.st 20 rfl rfl rfl (op_index (i := 1) rfl te_58 rfl (.seq _ _) rfl rfl (by first | rfl | assumption) ?_)) | (refine AOps.st 20 rfl rfl rfl (op_index rfl te_58 rfl (.own _ _ _) rfl rfl (by assumption) ?_)) | (refine AOps.st 20 rfl rfl rfl (op_index (i := 0) rfl te_58 rfl (.own _ _ _) rfl rfl (by first | rfl | assumption) ?_)) | (refine AOps.st 20 rfl rfl rfl (op_index (i := 1) rfl te_58 rfl (.own _ _ _) rfl rfl (by first | rfl | assumption) ?_)) | (refine AOps.st 20 rfl rfl rfl (op_index_arr rfl te_58 rfl rfl rfl (by omega) ?_))
    first | (refine AOps.st 21 rfl rfl rfl (op_fieldAddr_m rfl tf_74_1 rfl ?_)) | (refine AOps.st 21 rfl rfl rfl (op_fieldAddr_c rfl tf_74_1 rfl rfl ?_))
    first | (refine AOps.st 22 rfl rfl rfl (op_load_m (cs' := [_, _, _, _, _, _, _, _, _, _, _]) (i := 0) rfl ta_60 rfl rfl rfl rfl ?_)) | (refine AOps.st 22 rfl rfl rfl (op_load_m (cs' := [_, _, _, _, _, _, _, _, _, _, _]) (i := 1) rfl ta_60 rfl rfl rfl rfl ?_)) | (refine AOps.st 22 rfl rfl rfl (op_load_m (cs' := [_, _, _, _, _, _, _, _, _, _, _]) (i := 2) rfl ta_60 rfl rfl rfl rfl ?_)) | (refine AOps.st 22 rfl rfl rfl (op_load_m (cs' := [_, _, _, _, _, _, _, _, _, _, _]) (i := 3) rfl ta_60 rfl rfl rfl rfl ?_)) | (refine AOps.st 22 rfl rfl rfl (op_load_m (cs' := [_, _, _, _, _, _, _, _, _, _, _]) (i := 4) rfl ta_60 rfl rfl rfl rfl ?_)) | (refine AOps.st 22 rfl rfl rfl (op_load_m (cs' := [_, _, _, _, _, _, _, _, _, _, _]) (i := 5) rfl ta_60 rfl rfl rfl rfl ?_)) | (refine AOps.st 22 rfl rfl rfl (op_load_c (cs' := [_, _, _, _, _, _, _, _, _, _, _]) rfl ta_60 rfl rfl rfl ?_))
    refine AOps.st 23 rfl rfl rfl (op_buildSlice (xs := [.tmp 22]) el_56 rfl rfl rfl rfl rfl rfl (Nat.le_of_ble_eq_true rfl) ?_)
    first | (refine AOps.st 24 rfl rfl rfl (op_append (i := 0) el_56 rfl rfl rfl rfl (.seq _ _) (by simp only [List.length_map, List.length_reverse, List.length_cons, List.length_nil]; omega) ?_)) | (refine AOps.st 24 rfl rfl rfl (op_append (i := 1) el_56 rfl rfl rfl rfl (.seq _ _) (by simp only [List.length_map, List.length_reverse, List.length_cons, List.length_nil]; omega) ?_)) | (refine AOps.st 24 rfl rfl rfl (op_append (i := 2) el_56 rfl rfl rfl rfl (.seq _ _) (by simp only [List.length_map, List.length_reverse, List.length_cons, List.length_nil]; omega) ?_)) | (refine AOps.st 24 rfl rfl rfl (op_append (i := 3) el_56 rfl rfl rfl rfl (.seq _ _) (by simp only [List.length_map, List.length_reverse, List.length_cons, List.length_nil]; omega) ?_)) | (refine AOps.st 24 rfl rfl rfl (op_append (i := 0) el_56 rfl rfl rfl rfl (.own _ _ _) (by simp only [List.length_map, List.length_reverse, List.length_cons, List.length_nil]; omega) ?_)) | (refine AOps.st 24 rfl rfl rfl (op_append (i := 1) el_56 rfl rfl rfl rfl (.own _ _ _) (by simp only [List.length_map, List.length_reverse, List.length_cons, List.length_nil]; omega) ?_)) | (refine AOps.st 24 rfl rfl rfl (op_append (i := 2) el_56 rfl rfl rfl rfl (.own _ _ _) (by simp only [List.length_map, List.length_reverse, List.length_cons, List.length_nil]; omega) ?_)) | (refine AOps.st 24 rfl rfl rfl (op_append (i := 3) el_56 rfl rfl rfl rfl (.own _ _ _) (by simp only [List.length_map, List.length_reverse, List.length_cons, List.length_nil]; omega) ?_)) | (refine AOps.st 24 rfl rfl rfl (op_append (i := 0) el_56 rfl rfl rfl rfl (.nil _) (by simp only [List.length_map, List.length_reverse, List.length_cons, List.length_nil]; omega) ?_)) | (refine AOps.st 24 rfl rfl rfl (op_append (i := 1) el_56 rfl rfl rfl rfl (.nil _) (by simp only [List.length_map, List.length_reverse, List.length_cons, List.length_nil]; omega) ?_)) | (refine AOps.st 24 rfl rfl rfl (op_append (i := 2) el_56 rfl rfl rfl rfl (.nil _) (by simp only [List.length_map, List.length_reverse, List.length_cons, List.length_nil]; omega) ?_)) | (refine AOps.st 24 rfl rfl rfl (op_append (i := 3) el_56 rfl rfl rfl rfl (.nil _) (by simp only [List.length_map, List.length_reverse, List.length_cons, List.length_nil]; omega) ?_)) | (refine AOps.st 24 rfl rfl rfl (op_append_nil el_56 rfl rfl rfl (.seq _ _) (by simp only [List.length_map, List.length_reverse, List.length_cons, List.length_nil]; omega) ?_)) | (refine AOps.st 24 rfl rfl rfl (op_append_nil el_56 rfl rfl rfl (.own _ _ _) (by simp only [List.length_map, List.length_reverse, List.length_cons, List.length_nil]; omega) ?_)) | (refine AOps.st 24 rfl rfl rfl (op_append_nil el_56 rfl rfl rfl (.nil _) (by simp only [List.length_map, List.length_reverse, List.length_cons, List.length_nil]; omega) ?_))
    intro u24
    refine AOps.st 3 rfl rfl rfl (op_assign rfl rfl ?_)
    refine AOps.nil ?_
    refine go_blk ?_
    refine go_code ?_
    refine c_region ?_
    refine AOps.st 14 rfl rfl rfl (op_move rfl rfl ?_)
    first | (refine AOps.st 15 rfl rfl rfl (op_add rfl rfl rfl (IntWalk.i64_in _ (by omega)) ?_)) | (refine AOps.st 15 rfl rfl rfl (op_add rfl rfl rfl rfl ?_))
    refine AOps.st 4 rfl rfl rfl (op_assign rfl rfl ?_)
    refine AOps.nil ?_
    refine go_lp ?_
    exact ⟨(i + 1, u24), by simp; omega, by simp; omega, (by repeat' (first | exact SLe.nil _ | refine SLe.cons rfl ?_ ?_ | exact Le.refl _ | exact Le.own _ _ _ | exact Le.nil _ | (refine Le.own_eq ?_; exact e) | (refine Le.own_seq ?_; exact e) | (refine Le.seq_eq ?_; exact e))), (by first | exact MLe.none _ | exact MLe.refl _ | (repeat' (first | exact MLe.nil | exact MLe.refl _ | refine MLe.cons _ ?_ | refine MLe.drop _ ?_)))⟩
termination_by SizeOf.sizeOf e
decreasing_by
  · exact Ex.lt_kid hx
  · exact Nat.lt_trans (Bi.lt_e x) (Ex.lt_bind hx)
  · exact Nat.lt_trans (Al.lt_e x) (Ex.lt_alt hx)
end Go.Proofs.Ytjgjnheeohfmmaa
