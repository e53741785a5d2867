/- walk, and what goes along with it: Vars, Metas, Size -/
import Derived.Test.YtadhakcmfkghbaaB08d
namespace Go.Proofs.Ytadhakcmfkghbaa
open Go.RowKit
theorem C_fold {A : Type} {C : Nat → A → Prop} {step : A → Ty → A} (hC : ∀ k acc x, C (k + 1) acc → C k (step acc x)) : ∀ (l : List Ty) (k : Nat) (acc : A), C (l.length + k) acc → C k (l.foldl step acc)
  | [], k, acc, h => by simpa using h
  | x :: l, k, acc, h => by
    rw [List.foldl_cons]
    exact C_fold hC l k _ (hC _ _ _ (by rw [List.length_cons] at h; rwa [show l.length + k + 1 = l.length + 1 + k from by omega]))
set_option maxHeartbeats 4000000 in
set_option maxRecDepth 100000 in
theorem walk_c {A : Type} (G : A → Mem → Prop) (C : Nat → A → Prop) (step : A → Ty → A) (f : FuncId) (fs cs : List AV)
    (hf : ∀ k acc x M, C (k + 1) acc → G acc M → ACall Try.prog f (fs ++ [.agg (Ty.cells x)] ++ cs) M (fun v M' => v = .tup [] ∧ G (step acc x) M'))
    (hC : ∀ k acc x, C (k + 1) acc → C k (step acc x)) (d : Nat) : ∀ (t : Ty) (acc : A) (k : Nat) (M : Mem), t.size ≤ d → C (t.size + k) acc → G acc M →
      ACall Try.prog 63 [.agg t.cells, .clo (.func f) fs cs] M (fun v M' => v = .tup [] ∧ G (t.all.foldl step acc) M') := by
  induction d with
  | zero => intro t acc k M hd; have := Ty.size_pos t; omega
  | succ d ih =>
    rintro ⟨tk, ts, tn, ks⟩ acc k M hd hc hG
    have hl := Ty.cellss_len ks
    rw [Ty.size] at hd hc
    have hc1 : C (Ty.sizes ks + k) (step acc (.mk tk ts tn ks)) := hC _ _ _ (by rwa [show Ty.sizes ks + k + 1 = 1 + Ty.sizes ks + k from by omega])
    refine ACall.enter Try.func63 rfl (by kernel_rfl) rfl (Nat.le_of_ble_eq_true rfl) ?_
    refine c_start ?_
    refine c_lena (t := 0) (j := 3) rfl rfl (.seq _ _) (fun hmax => ?_)
    refine c_seq ?_
    refine c_region ?_
    refine AOps.st 2 rfl rfl rfl (op_boxe (cs' := [_, _, _, _]) rfl rfl rfl rfl ?_); intro b2
    refine AOps.nil ?_
    refine go_code ?_
    refine c_seq ?_
    refine c_region ?_
    refine AOps.st 6 rfl rfl rfl (op_move rfl rfl ?_)
    first | (refine AOps.st 7 rfl rfl rfl (op_load_m (cs' := [_, _, _, _]) (i := 0) rfl ta_77 rfl rfl rfl rfl ?_)) | (refine AOps.st 7 rfl rfl rfl (op_load_m (cs' := [_, _, _, _]) (i := 1) rfl ta_77 rfl rfl rfl rfl ?_)) | (refine AOps.st 7 rfl rfl rfl (op_load_m (cs' := [_, _, _, _]) (i := 2) rfl ta_77 rfl rfl rfl rfl ?_)) | (refine AOps.st 7 rfl rfl rfl (op_load_m (cs' := [_, _, _, _]) (i := 3) rfl ta_77 rfl rfl rfl rfl ?_)) | (refine AOps.st 7 rfl rfl rfl (op_load_m (cs' := [_, _, _, _]) (i := 4) rfl ta_77 rfl rfl rfl rfl ?_)) | (refine AOps.st 7 rfl rfl rfl (op_load_m (cs' := [_, _, _, _]) (i := 5) rfl ta_77 rfl rfl rfl rfl ?_)) | (refine AOps.st 7 rfl rfl rfl (op_load_m (cs' := [_, _, _, _]) (i := 6) rfl ta_77 rfl rfl rfl rfl ?_)) | (refine AOps.st 7 rfl rfl rfl (op_load_m (cs' := [_, _, _, _]) (i := 7) rfl ta_77 rfl rfl rfl rfl ?_)) | (refine AOps.st 7 rfl rfl rfl (op_load_m (cs' := [_, _, _, _]) (i := 8) rfl ta_77 rfl rfl rfl rfl ?_)) | (refine AOps.st 7 rfl rfl rfl (op_load_m (cs' := [_, _, _, _]) (i := 9) rfl ta_77 rfl rfl rfl rfl ?_)) | (refine AOps.st 7 rfl rfl rfl (op_load_c (cs' := [_, _, _, _]) rfl ta_77 rfl rfl rfl ?_))
    refine AOps.st 8 rfl rfl rfl (op_callvm (xs := [.tmp 7])  [.loc b2 _] rfl rfl rfl rfl (hf (Ty.sizes ks + k) acc (.mk tk ts tn ks) M (by rwa [show Ty.sizes ks + k + 1 = 1 + Ty.sizes ks + k from by omega]) hG) (Les.refl _) (fun v8 M8 h8 => ?_))
    refine AOps.nil ?_
    obtain ⟨rfl, hG8⟩ := h8
    refine go_code ?_
    refine c_seq ?_
    refine c_region ?_
    first | (refine AOps.st 9 rfl rfl rfl (op_fieldAddr_m rfl tf_77_3 rfl ?_)) | (refine AOps.st 9 rfl rfl rfl (op_fieldAddr_c rfl tf_77_3 rfl rfl ?_))
    first | (refine AOps.st 10 rfl rfl rfl (op_load_m1 (i := 0) rfl ta_75 rfl rfl rfl ?_)) | (refine AOps.st 10 rfl rfl rfl (op_load_m1 (i := 1) rfl ta_75 rfl rfl rfl ?_)) | (refine AOps.st 10 rfl rfl rfl (op_load_m1 (i := 2) rfl ta_75 rfl rfl rfl ?_)) | (refine AOps.st 10 rfl rfl rfl (op_load_m1 (i := 3) rfl ta_75 rfl rfl rfl ?_)) | (refine AOps.st 10 rfl rfl rfl (op_load_m1 (i := 4) rfl ta_75 rfl rfl rfl ?_)) | (refine AOps.st 10 rfl rfl rfl (op_load_m1 (i := 5) rfl ta_75 rfl rfl rfl ?_)) | (refine AOps.st 10 rfl rfl rfl (op_load_m1 (i := 6) rfl ta_75 rfl rfl rfl ?_)) | (refine AOps.st 10 rfl rfl rfl (op_load_m1 (i := 7) rfl ta_75 rfl rfl rfl ?_)) | (refine AOps.st 10 rfl rfl rfl (op_load_m1 (i := 8) rfl ta_75 rfl rfl rfl ?_)) | (refine AOps.st 10 rfl rfl rfl (op_load_m1 (i := 9) rfl ta_75 rfl rfl rfl ?_)) | (refine AOps.st 10 rfl rfl rfl (op_load_c1 rfl ta_75 rfl rfl ?_))
    first | (refine AOps.st 11 rfl rfl rfl (op_len rfl tu_75 rfl (.seq _ _) (fun n11 => ?_))) | (refine AOps.st 11 rfl rfl rfl (op_len rfl tu_75 rfl (.own _ _ _) (fun n11 => ?_))) | (refine AOps.st 11 rfl rfl rfl (op_len rfl tu_75 rfl (.nil 0) (fun n11 => ?_))) | (refine AOps.st 11 rfl rfl rfl (op_len_arr rfl tu_75 rfl ?_))
    refine AOps.st 12 rfl rfl rfl (op_move rfl rfl ?_)
    refine AOps.nil ?_
    refine go_code ?_
    refine c_block ?_
    refine c_loop (σ := Nat × Mem) (fun zz => match zz with | (i, Ms) => [(1, .clo (.func f) fs cs), (10, .seq 4 (Ty.cellss ks)), (11, .val (.int .i64 (Ty.cellss ks).length)), (12, .val (.int .i64 i))]) (fun zz => match zz with | (i, Ms) => .loc b2 (Ty.cells (.mk tk ts tn ks)) :: Ms) (fun zz => match zz with | (i, Ms) => i ≤ ks.length ∧ G ((Ty.alls (ks.take i)).foldl step (step acc (.mk tk ts tn ks))) Ms) (fun zz => match zz with | (i, Ms) => ks.length - i) ((0, M8)) ?_ ?_ ?_ ?_
    · exact ⟨by omega, by simpa [Ty.alls] using hG8⟩
    · exact (by repeat' (first | exact SLe.nil _ | refine SLe.cons rfl ?_ ?_ | exact Le.refl _ | exact Le.own _ _ _ | exact Le.nil _))
    · exact (by first | exact MLe.none _ | exact MLe.refl _ | (repeat' (first | exact MLe.nil | exact MLe.refl _ | refine MLe.cons _ ?_ | refine MLe.drop _ ?_)))
    rintro ⟨i, Ms⟩ hI
    try dsimp only [List.cons_append, List.nil_append] at hI ⊢
    obtain ⟨hi, hGi⟩ := hI
    refine c_seq ?_
    refine c_region ?_
    refine AOps.st 13 rfl rfl rfl (op_lss rfl rfl rfl ?_); intro c13 h13
    refine AOps.nil ?_
    refine go_code ?_
    refine c_seq ?_
    rcases bool_split h13 with ⟨rfl, g13⟩ | ⟨rfl, g13⟩
    · refine c_cond_f rfl ?_
      refine c_exit ?_
      refine x_code ?_
      refine x_lp ?_
      refine x_here ?_
      refine go_end ?_
      refine out_none rfl (MLe.drop _ (MLe.refl _)) ⟨rfl, ?_⟩
      rw [Ty.all, List.foldl_cons]
      rwa [List.take_of_length_le (by omega)] at hGi
    · refine c_cond_t rfl ?_
      refine c_skip ?_
      refine go_code ?_
      refine c_seq ?_
      refine c_block ?_
      refine c_seq ?_
      obtain ⟨⟨k', s', n', ks'⟩, hx⟩ := get_some (l := ks) (i := i) (by omega)
      have hcx := Ty.cellss_get hx
      have hsz := Ty.size_at hx
      have hsp : Ty.sizes (ks.take i) + Ty.size (.mk k' s' n' ks') ≤ Ty.sizes ks := by
        have h1 := Ty.sizes_take ks (i + 1)
        rw [take_snoc hx, Ty.sizes_app] at h1
        simpa [Ty.sizes] using h1
      have hCi : C (Ty.size (.mk k' s' n' ks') + (Ty.sizes ks - Ty.sizes (ks.take i) - Ty.size (.mk k' s' n' ks') + k)) ((Ty.alls (ks.take i)).foldl step (step acc (.mk tk ts tn ks))) := by
        refine C_fold hC _ _ _ ?_
        rw [Ty.alls_len]
        rwa [show Ty.sizes (ks.take i) + (Ty.size (.mk k' s' n' ks') + (Ty.sizes ks - Ty.sizes (ks.take i) - Ty.size (.mk k' s' n' ks') + k)) = Ty.sizes ks + k from by omega]
      refine c_region ?_
      first | (refine AOps.st 14 rfl rfl rfl (op_index rfl te_75 rfl (.seq _ _) rfl rfl (by assumption) ?_)) | (refine AOps.st 14 rfl rfl rfl (op_index (i := 0) rfl te_75 rfl (.seq _ _) rfl rfl (by first | rfl | assumption) ?_)) | (refine AOps.st 14 rfl rfl rfl (op_index (i := 1) rfl te_75 rfl (.seq _ _) rfl rfl (by first | rfl | assumption) ?_)) | (refine AOps.st 14 rfl rfl rfl (op_index rfl te_75 rfl (.own _ _ _) rfl rfl (by assumption) ?_)) | (refine AOps.st 14 rfl rfl rfl (op_index (i := 0) rfl te_75 rfl (.own _ _ _) rfl rfl (by first | rfl | assumption) ?_)) | (refine AOps.st 14 rfl rfl rfl (op_index (i := 1) rfl te_75 rfl (.own _ _ _) rfl rfl (by first | rfl | assumption) ?_)) | (refine AOps.st 14 rfl rfl rfl (op_index_arr rfl te_75 rfl rfl rfl (by omega) ?_))
      first | (refine AOps.st 15 rfl rfl rfl (op_load_m (cs' := [_, _, _, _]) (i := 0) rfl ta_77 rfl rfl rfl rfl ?_)) | (refine AOps.st 15 rfl rfl rfl (op_load_m (cs' := [_, _, _, _]) (i := 1) rfl ta_77 rfl rfl rfl rfl ?_)) | (refine AOps.st 15 rfl rfl rfl (op_load_m (cs' := [_, _, _, _]) (i := 2) rfl ta_77 rfl rfl rfl rfl ?_)) | (refine AOps.st 15 rfl rfl rfl (op_load_m (cs' := [_, _, _, _]) (i := 3) rfl ta_77 rfl rfl rfl rfl ?_)) | (refine AOps.st 15 rfl rfl rfl (op_load_m (cs' := [_, _, _, _]) (i := 4) rfl ta_77 rfl rfl rfl rfl ?_)) | (refine AOps.st 15 rfl rfl rfl (op_load_m (cs' := [_, _, _, _]) (i := 5) rfl ta_77 rfl rfl rfl rfl ?_)) | (refine AOps.st 15 rfl rfl rfl (op_load_m (cs' := [_, _, _, _]) (i := 6) rfl ta_77 rfl rfl rfl rfl ?_)) | (refine AOps.st 15 rfl rfl rfl (op_load_m (cs' := [_, _, _, _]) (i := 7) rfl ta_77 rfl rfl rfl rfl ?_)) | (refine AOps.st 15 rfl rfl rfl (op_load_m (cs' := [_, _, _, _]) (i := 8) rfl ta_77 rfl rfl rfl rfl ?_)) | (refine AOps.st 15 rfl rfl rfl (op_load_m (cs' := [_, _, _, _]) (i := 9) rfl ta_77 rfl rfl rfl rfl ?_)) | (refine AOps.st 15 rfl rfl rfl (op_load_c (cs' := [_, _, _, _]) rfl ta_77 rfl rfl rfl ?_))
      refine AOps.st 5 rfl rfl rfl (op_alloce (cs' := [_, _, _, _]) rfl tz_77 rfl rfl ?_); intro b5
      first | (refine AOps.st0 rfl rfl (op_store (cs' := [_, _, _, _]) (i := 0) rfl ts_77 rfl rfl rfl rfl rfl (Nat.le_of_ble_eq_true rfl) rfl ?_)) | (refine AOps.st0 rfl rfl (op_store (cs' := [_, _, _, _]) (i := 1) rfl ts_77 rfl rfl rfl rfl rfl (Nat.le_of_ble_eq_true rfl) rfl ?_)) | (refine AOps.st0 rfl rfl (op_store (cs' := [_, _, _, _]) (i := 2) rfl ts_77 rfl rfl rfl rfl rfl (Nat.le_of_ble_eq_true rfl) rfl ?_)) | (refine AOps.st0 rfl rfl (op_store (cs' := [_, _, _, _]) (i := 3) rfl ts_77 rfl rfl rfl rfl rfl (Nat.le_of_ble_eq_true rfl) rfl ?_)) | (refine AOps.st0 rfl rfl (op_store (cs' := [_, _, _, _]) (i := 4) rfl ts_77 rfl rfl rfl rfl rfl (Nat.le_of_ble_eq_true rfl) rfl ?_)) | (refine AOps.st0 rfl rfl (op_store (cs' := [_, _, _, _]) (i := 5) rfl ts_77 rfl rfl rfl rfl rfl (Nat.le_of_ble_eq_true rfl) rfl ?_)) | (refine AOps.st0 rfl rfl (op_store (cs' := [_, _, _, _]) (i := 6) rfl ts_77 rfl rfl rfl rfl rfl (Nat.le_of_ble_eq_true rfl) rfl ?_)) | (refine AOps.st0 rfl rfl (op_store (cs' := [_, _, _, _]) (i := 7) rfl ts_77 rfl rfl rfl rfl rfl (Nat.le_of_ble_eq_true rfl) rfl ?_)) | (refine AOps.st0 rfl rfl (op_store (cs' := [_, _, _, _]) (i := 8) rfl ts_77 rfl rfl rfl rfl rfl (Nat.le_of_ble_eq_true rfl) rfl ?_)) | (refine AOps.st0 rfl rfl (op_store (cs' := [_, _, _, _]) (i := 9) rfl ts_77 rfl rfl rfl rfl rfl (Nat.le_of_ble_eq_true rfl) rfl ?_))
      refine AOps.nil ?_
      refine go_code ?_
      refine c_region ?_
      first | (refine AOps.st 16 rfl rfl rfl (op_load_m (cs' := [_, _, _, _]) (i := 0) rfl ta_77 rfl rfl rfl rfl ?_)) | (refine AOps.st 16 rfl rfl rfl (op_load_m (cs' := [_, _, _, _]) (i := 1) rfl ta_77 rfl rfl rfl rfl ?_)) | (refine AOps.st 16 rfl rfl rfl (op_load_m (cs' := [_, _, _, _]) (i := 2) rfl ta_77 rfl rfl rfl rfl ?_)) | (refine AOps.st 16 rfl rfl rfl (op_load_m (cs' := [_, _, _, _]) (i := 3) rfl ta_77 rfl rfl rfl rfl ?_)) | (refine AOps.st 16 rfl rfl rfl (op_load_m (cs' := [_, _, _, _]) (i := 4) rfl ta_77 rfl rfl rfl rfl ?_)) | (refine AOps.st 16 rfl rfl rfl (op_load_m (cs' := [_, _, _, _]) (i := 5) rfl ta_77 rfl rfl rfl rfl ?_)) | (refine AOps.st 16 rfl rfl rfl (op_load_m (cs' := [_, _, _, _]) (i := 6) rfl ta_77 rfl rfl rfl rfl ?_)) | (refine AOps.st 16 rfl rfl rfl (op_load_m (cs' := [_, _, _, _]) (i := 7) rfl ta_77 rfl rfl rfl rfl ?_)) | (refine AOps.st 16 rfl rfl rfl (op_load_m (cs' := [_, _, _, _]) (i := 8) rfl ta_77 rfl rfl rfl rfl ?_)) | (refine AOps.st 16 rfl rfl rfl (op_load_m (cs' := [_, _, _, _]) (i := 9) rfl ta_77 rfl rfl rfl rfl ?_)) | (refine AOps.st 16 rfl rfl rfl (op_load_c (cs' := [_, _, _, _]) rfl ta_77 rfl rfl rfl ?_))
      refine AOps.st 17 rfl rfl rfl (op_move rfl rfl ?_)
      refine AOps.st 18 rfl rfl rfl (op_callm (xs := [.tmp 16, .tmp 17])  [.loc b5 _, .loc b2 _] rfl rfl rfl (ih (.mk k' s' n' ks') _ _ Ms (by omega) hCi hGi) (Les.refl _) (fun v18 M18 h18 => ?_))
      refine AOps.nil ?_
      obtain ⟨rfl, hG18⟩ := h18
      refine go_blk ?_
      refine go_code ?_
      refine c_region ?_
      first | (refine AOps.st 19 rfl rfl rfl (op_add rfl rfl rfl (IntWalk.i64_in _ (by omega)) ?_)) | (refine AOps.st 19 rfl rfl rfl (op_add rfl rfl rfl rfl ?_))
      refine AOps.st 12 rfl rfl rfl (op_move rfl rfl ?_)
      refine AOps.nil ?_
      refine go_lp ?_
      refine ⟨(i + 1, M18), ⟨by omega, ?_⟩, by simp; omega, (by repeat' (first | exact SLe.nil _ | refine SLe.cons rfl ?_ ?_ | exact Le.refl _ | exact Le.own _ _ _ | exact Le.nil _)), ?_⟩
      · rw [Ty.alls_take ks hx, List.foldl_append]; exact hG18
      · exact MLe.drop _ (MLe.cons _ (MLe.refl _))
def GV (b : Nat) (acc : List ByteArray) (M : Mem) : Prop := ∃ u, M = [.loc b [.own u 1 (strs acc)], .own 9 1 u]
set_option maxHeartbeats 4000000 in
set_option maxRecDepth 100000 in
theorem VarsF_c (b k : Nat) (acc : List ByteArray) (x : Ty) (M : Mem) (hk : acc.length + (k + 1) ≤ 2000000) (hG : GV b acc M) : ACall Try.prog 64 [.agg x.cells, .ptr b 0] M (fun v M' => v = .tup [] ∧ GV b (addVar acc x) M') := by
  obtain ⟨xk, xs, xn, xks⟩ := x
  obtain ⟨u, rfl⟩ := hG
  have hl := strs_len acc
  refine ACall.enter Try.func64 rfl (by kernel_rfl) rfl (Nat.le_of_ble_eq_true rfl) ?_
  refine c_start ?_
  refine c_seq ?_
  refine c_region ?_
  refine AOps.st 2 rfl rfl rfl (op_boxe (cs' := [_, _, _, _]) rfl rfl rfl rfl ?_); intro b2
  refine AOps.nil ?_
  refine go_code ?_
  refine c_seq ?_
  refine c_bool 12 (xk = 1 ∧ xs ∉ acc) ?_ _ _ rfl ?_
  · skip
    first | (refine AOps.st 3 rfl rfl rfl (op_fieldAddr_m rfl tf_77_0 rfl ?_)) | (refine AOps.st 3 rfl rfl rfl (op_fieldAddr_c rfl tf_77_0 rfl rfl ?_))
    first | (refine AOps.st 4 rfl rfl rfl (op_load_m1 (i := 0) rfl ta_3 rfl rfl rfl ?_)) | (refine AOps.st 4 rfl rfl rfl (op_load_m1 (i := 1) rfl ta_3 rfl rfl rfl ?_)) | (refine AOps.st 4 rfl rfl rfl (op_load_m1 (i := 2) rfl ta_3 rfl rfl rfl ?_)) | (refine AOps.st 4 rfl rfl rfl (op_load_m1 (i := 3) rfl ta_3 rfl rfl rfl ?_)) | (refine AOps.st 4 rfl rfl rfl (op_load_m1 (i := 4) rfl ta_3 rfl rfl rfl ?_)) | (refine AOps.st 4 rfl rfl rfl (op_load_m1 (i := 5) rfl ta_3 rfl rfl rfl ?_)) | (refine AOps.st 4 rfl rfl rfl (op_load_m1 (i := 6) rfl ta_3 rfl rfl rfl ?_)) | (refine AOps.st 4 rfl rfl rfl (op_load_m1 (i := 7) rfl ta_3 rfl rfl rfl ?_)) | (refine AOps.st 4 rfl rfl rfl (op_load_m1 (i := 8) rfl ta_3 rfl rfl rfl ?_)) | (refine AOps.st 4 rfl rfl rfl (op_load_m1 (i := 9) rfl ta_3 rfl rfl rfl ?_)) | (refine AOps.st 4 rfl rfl rfl (op_load_c1 rfl ta_3 rfl rfl ?_))
    refine AOps.st 5 rfl rfl rfl (op_eql rfl rfl rfl ?_); intro c5 h5
    refine AOps.st 6 rfl rfl rfl (op_move rfl rfl ?_)
    rcases bool_split h5 with ⟨rfl, g5⟩ | ⟨rfl, g5⟩
    · skip
      refine AOps.gf 7 rfl rfl rfl rfl rfl ?_
      refine AOps.gf 8 rfl rfl rfl rfl rfl ?_
      refine AOps.gf 9 rfl rfl rfl rfl rfl ?_
      refine AOps.gf 10 rfl rfl rfl rfl rfl ?_
      refine AOps.gf 11 rfl rfl rfl rfl rfl ?_
      refine AOps.st 12 rfl rfl rfl (op_pick rfl rfl rfl ?_)
      refine AOps.nil ?_
      refine BoolQ.mk rfl ?_ (by repeat' (first | exact SLe.wo _ _ | exact SLe.refl _ | refine SLe.fresh rfl ?_)) (by first | exact MLe.none _ | exact MLe.refl _ | (repeat' (first | exact MLe.nil | exact MLe.refl _ | refine MLe.cons _ ?_ | refine MLe.drop _ ?_)))
      simp_all
    · skip
      first | (refine AOps.gt 7 rfl rfl rfl rfl rfl (op_load_m1 (i := 0) rfl ta_24 rfl rfl rfl ?_)) | (refine AOps.gt 7 rfl rfl rfl rfl rfl (op_load_m1 (i := 1) rfl ta_24 rfl rfl rfl ?_)) | (refine AOps.gt 7 rfl rfl rfl rfl rfl (op_load_m1 (i := 2) rfl ta_24 rfl rfl rfl ?_)) | (refine AOps.gt 7 rfl rfl rfl rfl rfl (op_load_m1 (i := 3) rfl ta_24 rfl rfl rfl ?_)) | (refine AOps.gt 7 rfl rfl rfl rfl rfl (op_load_m1 (i := 4) rfl ta_24 rfl rfl rfl ?_)) | (refine AOps.gt 7 rfl rfl rfl rfl rfl (op_load_m1 (i := 5) rfl ta_24 rfl rfl rfl ?_)) | (refine AOps.gt 7 rfl rfl rfl rfl rfl (op_load_m1 (i := 6) rfl ta_24 rfl rfl rfl ?_)) | (refine AOps.gt 7 rfl rfl rfl rfl rfl (op_load_m1 (i := 7) rfl ta_24 rfl rfl rfl ?_)) | (refine AOps.gt 7 rfl rfl rfl rfl rfl (op_load_m1 (i := 8) rfl ta_24 rfl rfl rfl ?_)) | (refine AOps.gt 7 rfl rfl rfl rfl rfl (op_load_m1 (i := 9) rfl ta_24 rfl rfl rfl ?_)) | (refine AOps.gt 7 rfl rfl rfl rfl rfl (op_load_c1 rfl ta_24 rfl rfl ?_))
      first | (refine AOps.gt 8 rfl rfl rfl rfl rfl (op_fieldAddr_m rfl tf_77_1 rfl ?_)) | (refine AOps.gt 8 rfl rfl rfl rfl rfl (op_fieldAddr_c rfl tf_77_1 rfl rfl ?_))
      first | (refine AOps.gt 9 rfl rfl rfl rfl rfl (op_load_m1 (i := 0) rfl ta_9 rfl rfl rfl ?_)) | (refine AOps.gt 9 rfl rfl rfl rfl rfl (op_load_m1 (i := 1) rfl ta_9 rfl rfl rfl ?_)) | (refine AOps.gt 9 rfl rfl rfl rfl rfl (op_load_m1 (i := 2) rfl ta_9 rfl rfl rfl ?_)) | (refine AOps.gt 9 rfl rfl rfl rfl rfl (op_load_m1 (i := 3) rfl ta_9 rfl rfl rfl ?_)) | (refine AOps.gt 9 rfl rfl rfl rfl rfl (op_load_m1 (i := 4) rfl ta_9 rfl rfl rfl ?_)) | (refine AOps.gt 9 rfl rfl rfl rfl rfl (op_load_m1 (i := 5) rfl ta_9 rfl rfl rfl ?_)) | (refine AOps.gt 9 rfl rfl rfl rfl rfl (op_load_m1 (i := 6) rfl ta_9 rfl rfl rfl ?_)) | (refine AOps.gt 9 rfl rfl rfl rfl rfl (op_load_m1 (i := 7) rfl ta_9 rfl rfl rfl ?_)) | (refine AOps.gt 9 rfl rfl rfl rfl rfl (op_load_m1 (i := 8) rfl ta_9 rfl rfl rfl ?_)) | (refine AOps.gt 9 rfl rfl rfl rfl rfl (op_load_m1 (i := 9) rfl ta_9 rfl rfl rfl ?_)) | (refine AOps.gt 9 rfl rfl rfl rfl rfl (op_load_c1 rfl ta_9 rfl rfl ?_))
      refine AOps.gt 10 rfl rfl rfl rfl rfl (op_callb (xs := [.tmp 7, .tmp 9]) rfl rfl (ContainsS_c acc xs) (by first | exact Les.refl _ | (repeat' (first | exact Les.refl _ | refine Les.cons ?_ ?_ | exact Le.refl _ | exact Le.own _ _ _ | exact Le.nil _ | refine Le.agg ?_))) ?_); intro c10 h10
      refine AOps.gt 11 rfl rfl rfl rfl rfl (op_notc rfl rfl ?_); intro c11 h11
      try replace h11 := nott h11 h10
      refine AOps.st 12 rfl rfl rfl (op_pick rfl rfl rfl ?_)
      refine AOps.nil ?_
      refine BoolQ.mk rfl ?_ (by repeat' (first | exact SLe.wo _ _ | exact SLe.refl _ | refine SLe.fresh rfl ?_)) (by first | exact MLe.none _ | exact MLe.refl _ | (repeat' (first | exact MLe.nil | exact MLe.refl _ | refine MLe.cons _ ?_ | refine MLe.drop _ ?_)))
      simp_all
  intro c12 h12
  refine go_code ?_
  rcases bool_split h12 with ⟨rfl, g12⟩ | ⟨rfl, g12⟩
  · refine c_cond_f rfl ?_
    refine c_skip ?_
    refine go_end ?_
    first | (rw [addVar_yes g12]; exact out_none rfl (M' := [.loc b [.own u17 1 (strs (acc ++ [xs]))], .own 9 1 u17]) (MLe.drop _ (MLe.loc _ (Les.cons (Le.own_eq (strs_snoc _ _)) (Les.refl _)) (MLe.refl _))) ⟨rfl, u17, rfl⟩) | (rw [addVar_no g12]; exact out_none rfl (MLe.drop _ (MLe.refl _)) ⟨rfl, u, rfl⟩)
  · refine c_cond_t rfl ?_
    refine c_region ?_
    first | (refine AOps.st 13 rfl rfl rfl (op_load_m1 (i := 0) rfl ta_24 rfl rfl rfl ?_)) | (refine AOps.st 13 rfl rfl rfl (op_load_m1 (i := 1) rfl ta_24 rfl rfl rfl ?_)) | (refine AOps.st 13 rfl rfl rfl (op_load_m1 (i := 2) rfl ta_24 rfl rfl rfl ?_)) | (refine AOps.st 13 rfl rfl rfl (op_load_m1 (i := 3) rfl ta_24 rfl rfl rfl ?_)) | (refine AOps.st 13 rfl rfl rfl (op_load_m1 (i := 4) rfl ta_24 rfl rfl rfl ?_)) | (refine AOps.st 13 rfl rfl rfl (op_load_m1 (i := 5) rfl ta_24 rfl rfl rfl ?_)) | (refine AOps.st 13 rfl rfl rfl (op_load_m1 (i := 6) rfl ta_24 rfl rfl rfl ?_)) | (refine AOps.st 13 rfl rfl rfl (op_load_m1 (i := 7) rfl ta_24 rfl rfl rfl ?_)) | (refine AOps.st 13 rfl rfl rfl (op_load_m1 (i := 8) rfl ta_24 rfl rfl rfl ?_)) | (refine AOps.st 13 rfl rfl rfl (op_load_m1 (i := 9) rfl ta_24 rfl rfl rfl ?_)) | (refine AOps.st 13 rfl rfl rfl (op_load_c1 rfl ta_24 rfl rfl ?_))
    first | (refine AOps.st 14 rfl rfl rfl (op_fieldAddr_m rfl tf_77_1 rfl ?_)) | (refine AOps.st 14 rfl rfl rfl (op_fieldAddr_c rfl tf_77_1 rfl rfl ?_))
    first | (refine AOps.st 15 rfl rfl rfl (op_load_m1 (i := 0) rfl ta_9 rfl rfl rfl ?_)) | (refine AOps.st 15 rfl rfl rfl (op_load_m1 (i := 1) rfl ta_9 rfl rfl rfl ?_)) | (refine AOps.st 15 rfl rfl rfl (op_load_m1 (i := 2) rfl ta_9 rfl rfl rfl ?_)) | (refine AOps.st 15 rfl rfl rfl (op_load_m1 (i := 3) rfl ta_9 rfl rfl rfl ?_)) | (refine AOps.st 15 rfl rfl rfl (op_load_m1 (i := 4) rfl ta_9 rfl rfl rfl ?_)) | (refine AOps.st 15 rfl rfl rfl (op_load_m1 (i := 5) rfl ta_9 rfl rfl rfl ?_)) | (refine AOps.st 15 rfl rfl rfl (op_load_m1 (i := 6) rfl ta_9 rfl rfl rfl ?_)) | (refine AOps.st 15 rfl rfl rfl (op_load_m1 (i := 7) rfl ta_9 rfl rfl rfl ?_)) | (refine AOps.st 15 rfl rfl rfl (op_load_m1 (i := 8) rfl ta_9 rfl rfl rfl ?_)) | (refine AOps.st 15 rfl rfl rfl (op_load_m1 (i := 9) rfl ta_9 rfl rfl rfl ?_)) | (refine AOps.st 15 rfl rfl rfl (op_load_c1 rfl ta_9 rfl rfl ?_))
    refine AOps.st 16 rfl rfl rfl (op_buildSlice (xs := [.tmp 15]) el_24 rfl rfl rfl rfl rfl rfl (Nat.le_of_ble_eq_true rfl) ?_)
    first | (refine AOps.st 17 rfl rfl rfl (op_append (i := 0) el_24 rfl rfl rfl rfl (.seq _ _) (by simp; omega) ?_)) | (refine AOps.st 17 rfl rfl rfl (op_append (i := 1) el_24 rfl rfl rfl rfl (.seq _ _) (by simp; omega) ?_)) | (refine AOps.st 17 rfl rfl rfl (op_append (i := 2) el_24 rfl rfl rfl rfl (.seq _ _) (by simp; omega) ?_)) | (refine AOps.st 17 rfl rfl rfl (op_append (i := 3) el_24 rfl rfl rfl rfl (.seq _ _) (by simp; omega) ?_)) | (refine AOps.st 17 rfl rfl rfl (op_append (i := 4) el_24 rfl rfl rfl rfl (.seq _ _) (by simp; omega) ?_)) | (refine AOps.st 17 rfl rfl rfl (op_append (i := 5) el_24 rfl rfl rfl rfl (.seq _ _) (by simp; omega) ?_)) | (refine AOps.st 17 rfl rfl rfl (op_append (i := 0) el_24 rfl rfl rfl rfl (.own _ _ _) (by simp; omega) ?_)) | (refine AOps.st 17 rfl rfl rfl (op_append (i := 1) el_24 rfl rfl rfl rfl (.own _ _ _) (by simp; omega) ?_)) | (refine AOps.st 17 rfl rfl rfl (op_append (i := 2) el_24 rfl rfl rfl rfl (.own _ _ _) (by simp; omega) ?_)) | (refine AOps.st 17 rfl rfl rfl (op_append (i := 3) el_24 rfl rfl rfl rfl (.own _ _ _) (by simp; omega) ?_)) | (refine AOps.st 17 rfl rfl rfl (op_append (i := 4) el_24 rfl rfl rfl rfl (.own _ _ _) (by simp; omega) ?_)) | (refine AOps.st 17 rfl rfl rfl (op_append (i := 5) el_24 rfl rfl rfl rfl (.own _ _ _) (by simp; omega) ?_)) | (refine AOps.st 17 rfl rfl rfl (op_append (i := 0) el_24 rfl rfl rfl rfl (.nil _) (by simp; omega) ?_)) | (refine AOps.st 17 rfl rfl rfl (op_append (i := 1) el_24 rfl rfl rfl rfl (.nil _) (by simp; omega) ?_)) | (refine AOps.st 17 rfl rfl rfl (op_append (i := 2) el_24 rfl rfl rfl rfl (.nil _) (by simp; omega) ?_)) | (refine AOps.st 17 rfl rfl rfl (op_append (i := 3) el_24 rfl rfl rfl rfl (.nil _) (by simp; omega) ?_)) | (refine AOps.st 17 rfl rfl rfl (op_append (i := 4) el_24 rfl rfl rfl rfl (.nil _) (by simp; omega) ?_)) | (refine AOps.st 17 rfl rfl rfl (op_append (i := 5) el_24 rfl rfl rfl rfl (.nil _) (by simp; omega) ?_)) | (refine AOps.st 17 rfl rfl rfl (op_append_nil el_24 rfl rfl rfl (.seq _ _) (by simp; omega) ?_)) | (refine AOps.st 17 rfl rfl rfl (op_append_nil el_24 rfl rfl rfl (.own _ _ _) (by simp; omega) ?_)) | (refine AOps.st 17 rfl rfl rfl (op_append_nil el_24 rfl rfl rfl (.nil _) (by simp; omega) ?_))
    intro u17
    first | (refine AOps.st0 rfl rfl (op_store (i := 0) rfl ts_24 rfl rfl rfl rfl rfl (Nat.le_of_ble_eq_true rfl) rfl ?_)) | (refine AOps.st0 rfl rfl (op_store (i := 1) rfl ts_24 rfl rfl rfl rfl rfl (Nat.le_of_ble_eq_true rfl) rfl ?_)) | (refine AOps.st0 rfl rfl (op_store (i := 2) rfl ts_24 rfl rfl rfl rfl rfl (Nat.le_of_ble_eq_true rfl) rfl ?_)) | (refine AOps.st0 rfl rfl (op_store (i := 3) rfl ts_24 rfl rfl rfl rfl rfl (Nat.le_of_ble_eq_true rfl) rfl ?_)) | (refine AOps.st0 rfl rfl (op_store (i := 4) rfl ts_24 rfl rfl rfl rfl rfl (Nat.le_of_ble_eq_true rfl) rfl ?_)) | (refine AOps.st0 rfl rfl (op_store (i := 5) rfl ts_24 rfl rfl rfl rfl rfl (Nat.le_of_ble_eq_true rfl) rfl ?_)) | (refine AOps.st0 rfl rfl (op_store (i := 6) rfl ts_24 rfl rfl rfl rfl rfl (Nat.le_of_ble_eq_true rfl) rfl ?_)) | (refine AOps.st0 rfl rfl (op_store (i := 7) rfl ts_24 rfl rfl rfl rfl rfl (Nat.le_of_ble_eq_true rfl) rfl ?_)) | (refine AOps.st0 rfl rfl (op_store (i := 8) rfl ts_24 rfl rfl rfl rfl rfl (Nat.le_of_ble_eq_true rfl) rfl ?_)) | (refine AOps.st0 rfl rfl (op_store (i := 9) rfl ts_24 rfl rfl rfl rfl rfl (Nat.le_of_ble_eq_true rfl) rfl ?_))
    refine AOps.nil ?_
    refine go_end ?_
    first | (rw [addVar_yes g12]; exact out_none rfl (M' := [.loc b [.own u17 1 (strs (acc ++ [xs]))], .own 9 1 u17]) (MLe.drop _ (MLe.loc _ (Les.cons (Le.own_eq (strs_snoc _ _)) (Les.refl _)) (MLe.refl _))) ⟨rfl, u17, rfl⟩) | (rw [addVar_no g12]; exact out_none rfl (MLe.drop _ (MLe.refl _)) ⟨rfl, u, rfl⟩)
set_option maxHeartbeats 4000000 in
set_option maxRecDepth 100000 in
theorem Vars_c (t : Ty) (hmx : t.size ≤ 1000000) : OCall Try.prog 38 [.agg t.cells] 9 1 (strs t.vars) := by
  have W := fun (b : Nat) (M : Mem) (hG : GV b [] M) => walk_c (GV b) (fun k acc => acc.length + k ≤ 2000000) addVar 64 [] [.ptr b 0] (fun k acc x M h1 h2 => VarsF_c b k acc x M h1 h2) (fun k acc x h => by have := addVar_len acc x; omega) t.size t [] 0 M (Nat.le_refl _) (by simp; omega) hG
  obtain ⟨k, s, n, ks⟩ := t
  refine ACall.enter Try.func38 rfl (by kernel_rfl) rfl (Nat.le_of_ble_eq_true rfl) ?_
  refine c_start ?_
  refine c_seq ?_
  refine c_region ?_
  refine AOps.st 1 rfl rfl rfl (op_boxe (cs' := [_, _, _, _]) rfl rfl rfl rfl ?_); intro b1
  refine AOps.st 2 rfl rfl rfl (op_assign rfl rfl ?_)
  refine AOps.nil ?_
  refine go_code ?_
  refine c_seq ?_
  refine c_region ?_
  refine AOps.st 3 rfl rfl rfl (op_alloce (cs' := [_]) rfl tz_24 rfl rfl ?_); intro b3
  refine AOps.nil ?_
  refine go_code ?_
  refine c_seq ?_
  refine c_mem ((MImp.ownNil b3 9 1 _).trans (MImp.perm (by simpa using List.perm_append_comm (l₁ := [_, _]) (l₂ := [_])))) ?_
  refine c_region ?_
  first | (refine AOps.st 4 rfl rfl rfl (op_load_m (cs' := [_, _, _, _]) (i := 0) rfl ta_77 rfl rfl rfl rfl ?_)) | (refine AOps.st 4 rfl rfl rfl (op_load_m (cs' := [_, _, _, _]) (i := 1) rfl ta_77 rfl rfl rfl rfl ?_)) | (refine AOps.st 4 rfl rfl rfl (op_load_m (cs' := [_, _, _, _]) (i := 2) rfl ta_77 rfl rfl rfl rfl ?_)) | (refine AOps.st 4 rfl rfl rfl (op_load_m (cs' := [_, _, _, _]) (i := 3) rfl ta_77 rfl rfl rfl rfl ?_)) | (refine AOps.st 4 rfl rfl rfl (op_load_m (cs' := [_, _, _, _]) (i := 4) rfl ta_77 rfl rfl rfl rfl ?_)) | (refine AOps.st 4 rfl rfl rfl (op_load_m (cs' := [_, _, _, _]) (i := 5) rfl ta_77 rfl rfl rfl rfl ?_)) | (refine AOps.st 4 rfl rfl rfl (op_load_m (cs' := [_, _, _, _]) (i := 6) rfl ta_77 rfl rfl rfl rfl ?_)) | (refine AOps.st 4 rfl rfl rfl (op_load_m (cs' := [_, _, _, _]) (i := 7) rfl ta_77 rfl rfl rfl rfl ?_)) | (refine AOps.st 4 rfl rfl rfl (op_load_m (cs' := [_, _, _, _]) (i := 8) rfl ta_77 rfl rfl rfl rfl ?_)) | (refine AOps.st 4 rfl rfl rfl (op_load_m (cs' := [_, _, _, _]) (i := 9) rfl ta_77 rfl rfl rfl rfl ?_)) | (refine AOps.st 4 rfl rfl rfl (op_load_c (cs' := [_, _, _, _]) rfl ta_77 rfl rfl rfl ?_))
  refine AOps.st 5 rfl rfl rfl (op_makeFunc (fs := []) (cs := [.tmp 3]) rfl rfl rfl ?_)
  refine AOps.st 6 rfl rfl rfl (op_callm (xs := [.tmp 4, .tmp 5])  [.loc b1 _] rfl rfl rfl (W b3 _ ⟨.slice none 0 0, rfl⟩) (by first | exact Les.refl _ | (repeat' (first | exact Les.refl _ | refine Les.cons ?_ ?_ | exact Le.refl _ | exact Le.own _ _ _ | exact Le.nil _ | refine Le.agg ?_))) (fun v6 M6 h6 => ?_))
  refine AOps.nil ?_
  obtain ⟨rfl, u, rfl⟩ := h6
  refine go_code ?_
  refine c_seq ?_
  refine c_region ?_
  first | (refine AOps.st 7 rfl rfl rfl (op_load_m1 (i := 0) rfl ta_24 rfl rfl rfl ?_)) | (refine AOps.st 7 rfl rfl rfl (op_load_m1 (i := 1) rfl ta_24 rfl rfl rfl ?_)) | (refine AOps.st 7 rfl rfl rfl (op_load_m1 (i := 2) rfl ta_24 rfl rfl rfl ?_)) | (refine AOps.st 7 rfl rfl rfl (op_load_m1 (i := 3) rfl ta_24 rfl rfl rfl ?_)) | (refine AOps.st 7 rfl rfl rfl (op_load_m1 (i := 4) rfl ta_24 rfl rfl rfl ?_)) | (refine AOps.st 7 rfl rfl rfl (op_load_m1 (i := 5) rfl ta_24 rfl rfl rfl ?_)) | (refine AOps.st 7 rfl rfl rfl (op_load_m1 (i := 6) rfl ta_24 rfl rfl rfl ?_)) | (refine AOps.st 7 rfl rfl rfl (op_load_m1 (i := 7) rfl ta_24 rfl rfl rfl ?_)) | (refine AOps.st 7 rfl rfl rfl (op_load_m1 (i := 8) rfl ta_24 rfl rfl rfl ?_)) | (refine AOps.st 7 rfl rfl rfl (op_load_m1 (i := 9) rfl ta_24 rfl rfl rfl ?_)) | (refine AOps.st 7 rfl rfl rfl (op_load_c1 rfl ta_24 rfl rfl ?_))
  refine AOps.st 2 rfl rfl rfl (op_assign rfl rfl ?_)
  refine AOps.nil ?_
  refine go_code ?_
  refine c_ret ?_
  exact out_tmp rfl rfl (Le.refl _) (by first | exact MLe.none _ | exact MLe.refl _ | (repeat' (first | exact MLe.nil | exact MLe.refl _ | refine MLe.cons _ ?_ | refine MLe.drop _ ?_))) ⟨_, rfl, rfl⟩
end Go.Proofs.Ytadhakcmfkghbaa
