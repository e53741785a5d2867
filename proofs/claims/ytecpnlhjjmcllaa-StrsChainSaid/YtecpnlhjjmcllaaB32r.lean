/- cognateref31: Used, Find, Alloc. -/
import Derived.Test.YtecpnlhjjmcllaaB31c
import Derived.Test.YtecpnlhjjmcllaaB32w
namespace Go.Proofs.Ytecpnlhjjmcllaa
open Go.RowKit
def oRow (a : Nat) (o : HO) : List AV := [.val (.int .i64 a), .val (.int .i64 o.kind), .val (.int .i64 o.tag), .seq 1 (o.parts.map iv)]
def oRows : Nat → List HO → List (List AV)
  | _, [] => []
  | a, o :: H => oRow a o :: oRows (a + 1 + o.parts.length) H
theorem oRows_len : ∀ (H : List HO) (a : Nat), (oRows a H).length = H.length
  | [], _ => rfl
  | o :: H, a => by rw [oRows, List.length_cons, oRows_len H, List.length_cons]
theorem oRows_at : ∀ (H : List HO) (a k : Nat) (o : HO), H[k]? = some o → (oRows a H)[k]? = some (oRow (a + used (H.take k)) o)
  | [], a, k, o, h => by simp at h
  | x :: H, a, 0, o, h => by simp at h; subst h; rw [oRows]; simp [used_nil]
  | x :: H, a, k + 1, o, h => by
    simp at h
    rw [oRows, List.getElem?_cons_succ, oRows_at H _ k o h, List.take_succ_cons, used_cons]
    congr 2
    omega
theorem oRows_get {H : List HO} {k : Nat} {o : HO} (h : H[k]? = some o) : (oRows 1 H)[k]? = some (oRow (adr H k) o) := by
  rw [oRows_at H 1 k o h, adr, Nat.add_comm]
theorem oRows_app : ∀ (H : List HO) (a : Nat) (o : HO), oRows a (H ++ [o]) = oRows a H ++ [oRow (a + used H) o]
  | [], a, o => by simp [oRows, used_nil]
  | x :: H, a, o => by
    rw [List.cons_append, oRows, oRows, oRows_app H, used_cons, List.cons_append]
    congr 4
    omega
def RefAt (br : Nat) (sz : Int) (H : List HO) (M : Mem) : Prop := ∃ u, M = [.loc br [.val (.int .i64 sz), .own u 4 (oRows 1 H)], .own 86 4 u]
set_option maxHeartbeats 4000000 in
set_option maxRecDepth 100000 in
theorem rUsed_c (br : Nat) (sz : Int) (H : List HO) (M : Mem) (hM : RefAt br sz H M) (hu : used H ≤ 16777216) : KCall Try.prog 16 [.ptr br 0] M (.val (.int .i64 (used H))) := by
  obtain ⟨u, rfl⟩ := hM
  have hl := oRows_len H 1
  have hH : H.length ≤ used H := by
    clear hl hu
    induction H with
    | nil => simp
    | cons o H ih => rw [used_cons, List.length_cons]; omega
  refine ACall.enter Try.func16 rfl (by kernel_rfl) rfl (Nat.le_of_ble_eq_true rfl) ?_
  refine c_start ?_
  refine c_seq ?_
  refine c_region ?_
  refine AOps.st 2 rfl rfl rfl (op_assign rfl rfl ?_)
  refine AOps.nil ?_
  refine go_code ?_
  refine c_seq ?_
  refine c_region ?_
  refine AOps.st 3 rfl rfl rfl (op_assign rfl rfl ?_)
  refine AOps.nil ?_
  refine go_code ?_
  refine c_seq ?_
  refine c_seq ?_
  refine c_region ?_
  refine AOps.st 4 rfl rfl rfl (op_assign rfl rfl ?_)
  refine AOps.nil ?_
  refine go_code ?_
  refine c_block ?_
  apply c_loopkm [1, 3, 4, 5, 6, 7, 8, 9, 10, 11, 12, 13, 14, 15, 16, 17, 18, 19, 20, 21, 22, 23, 24, 25] (σ := Nat) (fun zz => match zz with | k => [(3, .val (.int .i64 (used (H.take k)))), (4, .val (.int .i64 k))]) (fun zz => match zz with | k => k ≤ H.length) (fun zz => match zz with | k => H.length - k) (0)
  · repeat' (first | exact Drops.nil | apply Drops.keep rfl | apply Drops.skip rfl)
  · exact Nat.zero_le _
  · exact (by repeat' (first | exact SLe.nil _ | refine SLe.cons rfl ?_ ?_ | exact Le.refl _ | exact Le.own _ _ _ | exact Le.nil _))
  rintro k hI
  try dsimp only [List.cons_append, List.nil_append] at hI ⊢
  refine c_seq ?_
  refine c_seq ?_
  refine c_region ?_
  refine AOps.st 5 rfl rfl rfl (op_move rfl rfl ?_)
  refine AOps.st 6 rfl rfl rfl (op_move rfl rfl ?_)
  first | (refine AOps.st 7 rfl rfl rfl (op_nilCheck_m rfl rfl ?_)) | (refine AOps.st 7 rfl rfl rfl (op_nilCheck_c rfl rfl ?_)) | (refine AOps.st 7 rfl rfl rfl (op_nilCheck_f rfl rfl ?_))
  first | (refine AOps.st 8 rfl rfl rfl (op_fieldAddr_m rfl tf_33_1 rfl ?_)) | (refine AOps.st 8 rfl rfl rfl (op_fieldAddr_c rfl tf_33_1 rfl rfl ?_))
  first | (refine AOps.st 9 rfl rfl rfl (op_load_m1 (i := 0) rfl ta_31 rfl rfl rfl ?_)) | (refine AOps.st 9 rfl rfl rfl (op_load_m1 (i := 1) rfl ta_31 rfl rfl rfl ?_)) | (refine AOps.st 9 rfl rfl rfl (op_load_m1 (i := 2) rfl ta_31 rfl rfl rfl ?_)) | (refine AOps.st 9 rfl rfl rfl (op_load_m1 (i := 3) rfl ta_31 rfl rfl rfl ?_)) | (refine AOps.st 9 rfl rfl rfl (op_load_m1 (i := 4) rfl ta_31 rfl rfl rfl ?_)) | (refine AOps.st 9 rfl rfl rfl (op_load_m1 (i := 5) rfl ta_31 rfl rfl rfl ?_)) | (refine AOps.st 9 rfl rfl rfl (op_load_m1 (i := 6) rfl ta_31 rfl rfl rfl ?_)) | (refine AOps.st 9 rfl rfl rfl (op_load_m1 (i := 7) rfl ta_31 rfl rfl rfl ?_)) | (refine AOps.st 9 rfl rfl rfl (op_load_m1 (i := 8) rfl ta_31 rfl rfl rfl ?_)) | (refine AOps.st 9 rfl rfl rfl (op_load_m1 (i := 9) rfl ta_31 rfl rfl rfl ?_)) | (refine AOps.st 9 rfl rfl rfl (op_load_c1 rfl ta_31 rfl rfl ?_))
  first | (refine AOps.st 10 rfl rfl rfl (op_len rfl tu_31 rfl (.seq _ _) (fun n10 => ?_))) | (refine AOps.st 10 rfl rfl rfl (op_len rfl tu_31 rfl (.own _ _ _) (fun n10 => ?_))) | (refine AOps.st 10 rfl rfl rfl (op_len rfl tu_31 rfl (.nil 0) (fun n10 => ?_))) | (refine AOps.st 10 rfl rfl rfl (op_len_arr rfl tu_31 rfl ?_))
  refine AOps.st 11 rfl rfl rfl (op_lss rfl rfl rfl ?_); intro c11 h11
  refine AOps.nil ?_
  refine go_code ?_
  rcases bool_split h11 with ⟨rfl, g11⟩ | ⟨rfl, g11⟩
  · refine c_cond_f rfl ?_
    refine c_exit ?_
    refine x_code ?_
    refine x_lp ?_
    refine x_here ?_
    refine go_code ?_
    refine c_seq ?_
    rw [List.take_of_length_le (by omega)]
    refine c_region ?_
    refine AOps.st 26 rfl rfl rfl (op_move rfl rfl ?_)
    refine AOps.st 2 rfl rfl rfl (op_assign rfl rfl ?_)
    refine AOps.nil ?_
    refine go_code ?_
    refine c_ret ?_
    exact out_tmp rfl rfl (Le.refl _) (by first | exact MLe.none _ | exact MLe.refl _ | (repeat' (first | exact MLe.nil | exact MLe.refl _ | refine MLe.cons _ ?_ | refine MLe.drop _ ?_))) ⟨rfl, rfl⟩
  · refine c_cond_t rfl ?_
    refine c_skip ?_
    refine go_code ?_
    refine c_seq ?_
    refine c_block ?_
    obtain ⟨o, ho⟩ := getk (l := H) (i := k) (by omega)
    have hg := oRows_get ho
    have hn := used_take H (k + 1)
    have hlm : (o.parts.map iv).length = o.parts.length := List.length_map ..
    have hn2 : used (H.take (k + 1)) = used (H.take k) + (o.parts.length + 1) := by rw [take_next ho, used_app, used_one]
    refine c_region ?_
    refine AOps.st 14 rfl rfl rfl (op_move rfl rfl ?_)
    first | (refine AOps.st 15 rfl rfl rfl (op_add rfl rfl rfl (IntWalk.i64_in _ (by omega)) ?_)) | (refine AOps.st 15 rfl rfl rfl (op_add rfl rfl rfl rfl ?_))
    refine AOps.st 16 rfl rfl rfl (op_move rfl rfl ?_)
    first | (refine AOps.st 17 rfl rfl rfl (op_nilCheck_m rfl rfl ?_)) | (refine AOps.st 17 rfl rfl rfl (op_nilCheck_c rfl rfl ?_)) | (refine AOps.st 17 rfl rfl rfl (op_nilCheck_f rfl rfl ?_))
    first | (refine AOps.st 18 rfl rfl rfl (op_fieldAddr_m rfl tf_33_1 rfl ?_)) | (refine AOps.st 18 rfl rfl rfl (op_fieldAddr_c rfl tf_33_1 rfl rfl ?_))
    first | (refine AOps.st 19 rfl rfl rfl (op_load_m1 (i := 0) rfl ta_31 rfl rfl rfl ?_)) | (refine AOps.st 19 rfl rfl rfl (op_load_m1 (i := 1) rfl ta_31 rfl rfl rfl ?_)) | (refine AOps.st 19 rfl rfl rfl (op_load_m1 (i := 2) rfl ta_31 rfl rfl rfl ?_)) | (refine AOps.st 19 rfl rfl rfl (op_load_m1 (i := 3) rfl ta_31 rfl rfl rfl ?_)) | (refine AOps.st 19 rfl rfl rfl (op_load_m1 (i := 4) rfl ta_31 rfl rfl rfl ?_)) | (refine AOps.st 19 rfl rfl rfl (op_load_m1 (i := 5) rfl ta_31 rfl rfl rfl ?_)) | (refine AOps.st 19 rfl rfl rfl (op_load_m1 (i := 6) rfl ta_31 rfl rfl rfl ?_)) | (refine AOps.st 19 rfl rfl rfl (op_load_m1 (i := 7) rfl ta_31 rfl rfl rfl ?_)) | (refine AOps.st 19 rfl rfl rfl (op_load_m1 (i := 8) rfl ta_31 rfl rfl rfl ?_)) | (refine AOps.st 19 rfl rfl rfl (op_load_m1 (i := 9) rfl ta_31 rfl rfl rfl ?_)) | (refine AOps.st 19 rfl rfl rfl (op_load_c1 rfl ta_31 rfl rfl ?_))
    refine AOps.st 20 rfl rfl rfl (op_move rfl rfl ?_)
    first | (refine AOps.st 21 rfl rfl rfl (op_index rfl te_31 rfl (.seq _ _) rfl rfl (hg) ?_)) | (refine AOps.st 21 rfl rfl rfl (op_index (i := 0) rfl te_31 rfl (.seq _ _) rfl rfl (by first | rfl | assumption) ?_)) | (refine AOps.st 21 rfl rfl rfl (op_index (i := 1) rfl te_31 rfl (.seq _ _) rfl rfl (by first | rfl | assumption) ?_)) | (refine AOps.st 21 rfl rfl rfl (op_index rfl te_31 rfl (.own _ _ _) rfl rfl (hg) ?_)) | (refine AOps.st 21 rfl rfl rfl (op_index (i := 0) rfl te_31 rfl (.own _ _ _) rfl rfl (by first | rfl | assumption) ?_)) | (refine AOps.st 21 rfl rfl rfl (op_index (i := 1) rfl te_31 rfl (.own _ _ _) rfl rfl (by first | rfl | assumption) ?_)) | (refine AOps.st 21 rfl rfl rfl (op_index_arr rfl te_31 rfl rfl rfl (by omega) ?_))
    first | (refine AOps.st 22 rfl rfl rfl (op_fieldAddr_m rfl tf_86_3 rfl ?_)) | (refine AOps.st 22 rfl rfl rfl (op_fieldAddr_c rfl tf_86_3 rfl rfl ?_))
    first | (refine AOps.st 23 rfl rfl rfl (op_load_m1 (i := 0) rfl ta_34 rfl rfl rfl ?_)) | (refine AOps.st 23 rfl rfl rfl (op_load_m1 (i := 1) rfl ta_34 rfl rfl rfl ?_)) | (refine AOps.st 23 rfl rfl rfl (op_load_m1 (i := 2) rfl ta_34 rfl rfl rfl ?_)) | (refine AOps.st 23 rfl rfl rfl (op_load_m1 (i := 3) rfl ta_34 rfl rfl rfl ?_)) | (refine AOps.st 23 rfl rfl rfl (op_load_m1 (i := 4) rfl ta_34 rfl rfl rfl ?_)) | (refine AOps.st 23 rfl rfl rfl (op_load_m1 (i := 5) rfl ta_34 rfl rfl rfl ?_)) | (refine AOps.st 23 rfl rfl rfl (op_load_m1 (i := 6) rfl ta_34 rfl rfl rfl ?_)) | (refine AOps.st 23 rfl rfl rfl (op_load_m1 (i := 7) rfl ta_34 rfl rfl rfl ?_)) | (refine AOps.st 23 rfl rfl rfl (op_load_m1 (i := 8) rfl ta_34 rfl rfl rfl ?_)) | (refine AOps.st 23 rfl rfl rfl (op_load_m1 (i := 9) rfl ta_34 rfl rfl rfl ?_)) | (refine AOps.st 23 rfl rfl rfl (op_load_c1 rfl ta_34 rfl rfl ?_))
    first | (refine AOps.st 24 rfl rfl rfl (op_len rfl tu_34 rfl (.seq _ _) (fun n24 => ?_))) | (refine AOps.st 24 rfl rfl rfl (op_len rfl tu_34 rfl (.own _ _ _) (fun n24 => ?_))) | (refine AOps.st 24 rfl rfl rfl (op_len rfl tu_34 rfl (.nil 0) (fun n24 => ?_))) | (refine AOps.st 24 rfl rfl rfl (op_len_arr rfl tu_34 rfl ?_))
    first | (refine AOps.st 25 rfl rfl rfl (op_add rfl rfl rfl (IntWalk.i64_in _ (by omega)) ?_)) | (refine AOps.st 25 rfl rfl rfl (op_add rfl rfl rfl rfl ?_))
    refine AOps.st 3 rfl rfl rfl (op_assign rfl rfl ?_)
    refine AOps.nil ?_
    refine go_blk ?_
    refine go_code ?_
    refine c_region ?_
    refine AOps.st 12 rfl rfl rfl (op_move rfl rfl ?_)
    first | (refine AOps.st 13 rfl rfl rfl (op_add rfl rfl rfl (IntWalk.i64_in _ (by omega)) ?_)) | (refine AOps.st 13 rfl rfl rfl (op_add rfl rfl rfl rfl ?_))
    refine AOps.st 4 rfl rfl rfl (op_assign rfl rfl ?_)
    refine AOps.nil ?_
    refine go_lp ?_
    exact ⟨k + 1, by have := get_lt ho; omega, by have := get_lt ho; show H.length - (k + 1) < H.length - k; omega, SLe.cons rfl (Le.ieq (by rw [List.length_map]; omega)) (by repeat' (first | exact SLe.nil _ | refine SLe.cons rfl ?_ ?_ | exact Le.refl _ | exact Le.own _ _ _ | exact Le.nil _)), (by first | exact MLe.none _ | exact MLe.refl _ | (repeat' (first | exact MLe.nil | exact MLe.refl _ | refine MLe.cons _ ?_ | refine MLe.drop _ ?_)))⟩
theorem objFrom_drop {H : List HO} {k : Nat} {o : HO} {w : Int} (h : H[k]? = some o) : objFrom (adr H k) (H.drop k) w = if w = 2 * ((adr H k : Nat) : Int) then some o else objFrom (adr H (k + 1)) (H.drop (k + 1)) w := by
  obtain ⟨hk, rfl⟩ := List.getElem?_eq_some_iff.1 h
  rw [List.drop_eq_getElem_cons hk, objFrom, adr_next h]
set_option maxHeartbeats 4000000 in
set_option maxRecDepth 100000 in
theorem rFind_c (br : Nat) (sz : Int) (H : List HO) (M : Mem) (hM : RefAt br sz H M) (hu : used H ≤ 16777216) (w : Int) : ACall Try.prog 41 [.ptr br 0, .val (.int .u64 w)] M (fun v M' => ((∃ k o, H[k]? = some o ∧ objOf H w = some o ∧ v = .val (.int .i64 (k : Nat))) ∨ (objOf H w = none ∧ v = .val (.int .i64 (-1)))) ∧ M' = M) := by
  obtain ⟨u, rfl⟩ := hM
  have hl := oRows_len H 1
  have hst : objOf H w = objFrom (adr H 0) (H.drop 0) w := rfl
  generalize hob : objOf H w = ob at hst ⊢
  refine ACall.enter Try.func41 rfl (by kernel_rfl) rfl (Nat.le_of_ble_eq_true rfl) ?_
  refine c_start ?_
  refine c_seq ?_
  refine c_region ?_
  refine AOps.st 4 rfl rfl rfl (op_assign rfl rfl ?_)
  refine AOps.nil ?_
  refine go_code ?_
  refine c_seq ?_
  refine c_seq ?_
  refine c_region ?_
  refine AOps.st 5 rfl rfl rfl (op_assign rfl rfl ?_)
  refine AOps.nil ?_
  refine go_code ?_
  refine c_block ?_
  apply c_loopkm [2, 3, 4, 5, 6, 7, 8, 9, 10, 11, 12, 13, 14, 15, 16, 17, 18, 19, 20, 21, 22, 23, 24, 25, 26, 27] (σ := Nat) (fun zz => match zz with | k => [(5, .val (.int .i64 k))]) (fun zz => match zz with | k => k ≤ H.length ∧ ob = objFrom (adr H k) (H.drop k) w) (fun zz => match zz with | k => H.length - k) (0)
  · repeat' (first | exact Drops.nil | apply Drops.keep rfl | apply Drops.skip rfl)
  · exact ⟨Nat.zero_le _, hst⟩
  · exact (by repeat' (first | exact SLe.nil _ | refine SLe.cons rfl ?_ ?_ | exact Le.refl _ | exact Le.own _ _ _ | exact Le.nil _))
  rintro k hI
  try dsimp only [List.cons_append, List.nil_append] at hI ⊢
  obtain ⟨hk, hob2⟩ := hI
  refine c_seq ?_
  refine c_seq ?_
  refine c_region ?_
  refine AOps.st 6 rfl rfl rfl (op_move rfl rfl ?_)
  refine AOps.st 7 rfl rfl rfl (op_move rfl rfl ?_)
  first | (refine AOps.st 8 rfl rfl rfl (op_nilCheck_m rfl rfl ?_)) | (refine AOps.st 8 rfl rfl rfl (op_nilCheck_c rfl rfl ?_)) | (refine AOps.st 8 rfl rfl rfl (op_nilCheck_f rfl rfl ?_))
  first | (refine AOps.st 9 rfl rfl rfl (op_fieldAddr_m rfl tf_33_1 rfl ?_)) | (refine AOps.st 9 rfl rfl rfl (op_fieldAddr_c rfl tf_33_1 rfl rfl ?_))
  first | (refine AOps.st 10 rfl rfl rfl (op_load_m1 (i := 0) rfl ta_31 rfl rfl rfl ?_)) | (refine AOps.st 10 rfl rfl rfl (op_load_m1 (i := 1) rfl ta_31 rfl rfl rfl ?_)) | (refine AOps.st 10 rfl rfl rfl (op_load_m1 (i := 2) rfl ta_31 rfl rfl rfl ?_)) | (refine AOps.st 10 rfl rfl rfl (op_load_m1 (i := 3) rfl ta_31 rfl rfl rfl ?_)) | (refine AOps.st 10 rfl rfl rfl (op_load_m1 (i := 4) rfl ta_31 rfl rfl rfl ?_)) | (refine AOps.st 10 rfl rfl rfl (op_load_m1 (i := 5) rfl ta_31 rfl rfl rfl ?_)) | (refine AOps.st 10 rfl rfl rfl (op_load_m1 (i := 6) rfl ta_31 rfl rfl rfl ?_)) | (refine AOps.st 10 rfl rfl rfl (op_load_m1 (i := 7) rfl ta_31 rfl rfl rfl ?_)) | (refine AOps.st 10 rfl rfl rfl (op_load_m1 (i := 8) rfl ta_31 rfl rfl rfl ?_)) | (refine AOps.st 10 rfl rfl rfl (op_load_m1 (i := 9) rfl ta_31 rfl rfl rfl ?_)) | (refine AOps.st 10 rfl rfl rfl (op_load_c1 rfl ta_31 rfl rfl ?_))
  first | (refine AOps.st 11 rfl rfl rfl (op_len rfl tu_31 rfl (.seq _ _) (fun n11 => ?_))) | (refine AOps.st 11 rfl rfl rfl (op_len rfl tu_31 rfl (.own _ _ _) (fun n11 => ?_))) | (refine AOps.st 11 rfl rfl rfl (op_len rfl tu_31 rfl (.nil 0) (fun n11 => ?_))) | (refine AOps.st 11 rfl rfl rfl (op_len_arr rfl tu_31 rfl ?_))
  refine AOps.st 12 rfl rfl rfl (op_lss rfl rfl rfl ?_); intro c12 h12
  refine AOps.nil ?_
  refine go_code ?_
  rcases bool_split h12 with ⟨rfl, g12⟩ | ⟨rfl, g12⟩
  · refine c_cond_f rfl ?_
    refine c_exit ?_
    refine x_code ?_
    refine x_lp ?_
    refine x_here ?_
    refine go_code ?_
    refine c_seq ?_
    refine c_region ?_
    refine AOps.st 4 rfl rfl rfl (op_assign rfl rfl ?_)
    refine AOps.nil ?_
    refine go_code ?_
    refine c_ret ?_
    exact out_tmp rfl rfl (Le.refl _) (by first | exact MLe.none _ | exact MLe.refl _ | (repeat' (first | exact MLe.nil | exact MLe.refl _ | refine MLe.cons _ ?_ | refine MLe.drop _ ?_))) ⟨.inr ⟨by rw [hob2, List.drop_eq_nil_of_le (by omega)]; rfl, rfl⟩, rfl⟩
  · refine c_cond_t rfl ?_
    refine c_skip ?_
    refine go_code ?_
    refine c_seq ?_
    refine c_block ?_
    refine c_seq ?_
    obtain ⟨o, ho⟩ := getk (l := H) (i := k) (by omega)
    have hg := oRows_get ho
    have hn := adr_fit ho
    rw [objFrom_drop ho] at hob2
    refine c_region ?_
    refine AOps.st 15 rfl rfl rfl (op_move rfl rfl ?_)
    first | (refine AOps.st 16 rfl rfl rfl (op_nilCheck_m rfl rfl ?_)) | (refine AOps.st 16 rfl rfl rfl (op_nilCheck_c rfl rfl ?_)) | (refine AOps.st 16 rfl rfl rfl (op_nilCheck_f rfl rfl ?_))
    first | (refine AOps.st 17 rfl rfl rfl (op_fieldAddr_m rfl tf_33_1 rfl ?_)) | (refine AOps.st 17 rfl rfl rfl (op_fieldAddr_c rfl tf_33_1 rfl rfl ?_))
    first | (refine AOps.st 18 rfl rfl rfl (op_load_m1 (i := 0) rfl ta_31 rfl rfl rfl ?_)) | (refine AOps.st 18 rfl rfl rfl (op_load_m1 (i := 1) rfl ta_31 rfl rfl rfl ?_)) | (refine AOps.st 18 rfl rfl rfl (op_load_m1 (i := 2) rfl ta_31 rfl rfl rfl ?_)) | (refine AOps.st 18 rfl rfl rfl (op_load_m1 (i := 3) rfl ta_31 rfl rfl rfl ?_)) | (refine AOps.st 18 rfl rfl rfl (op_load_m1 (i := 4) rfl ta_31 rfl rfl rfl ?_)) | (refine AOps.st 18 rfl rfl rfl (op_load_m1 (i := 5) rfl ta_31 rfl rfl rfl ?_)) | (refine AOps.st 18 rfl rfl rfl (op_load_m1 (i := 6) rfl ta_31 rfl rfl rfl ?_)) | (refine AOps.st 18 rfl rfl rfl (op_load_m1 (i := 7) rfl ta_31 rfl rfl rfl ?_)) | (refine AOps.st 18 rfl rfl rfl (op_load_m1 (i := 8) rfl ta_31 rfl rfl rfl ?_)) | (refine AOps.st 18 rfl rfl rfl (op_load_m1 (i := 9) rfl ta_31 rfl rfl rfl ?_)) | (refine AOps.st 18 rfl rfl rfl (op_load_c1 rfl ta_31 rfl rfl ?_))
    refine AOps.st 19 rfl rfl rfl (op_move rfl rfl ?_)
    first | (refine AOps.st 20 rfl rfl rfl (op_index rfl te_31 rfl (.seq _ _) rfl rfl (hg) ?_)) | (refine AOps.st 20 rfl rfl rfl (op_index (i := 0) rfl te_31 rfl (.seq _ _) rfl rfl (by first | rfl | assumption) ?_)) | (refine AOps.st 20 rfl rfl rfl (op_index (i := 1) rfl te_31 rfl (.seq _ _) rfl rfl (by first | rfl | assumption) ?_)) | (refine AOps.st 20 rfl rfl rfl (op_index rfl te_31 rfl (.own _ _ _) rfl rfl (hg) ?_)) | (refine AOps.st 20 rfl rfl rfl (op_index (i := 0) rfl te_31 rfl (.own _ _ _) rfl rfl (by first | rfl | assumption) ?_)) | (refine AOps.st 20 rfl rfl rfl (op_index (i := 1) rfl te_31 rfl (.own _ _ _) rfl rfl (by first | rfl | assumption) ?_)) | (refine AOps.st 20 rfl rfl rfl (op_index_arr rfl te_31 rfl rfl rfl (by omega) ?_))
    first | (refine AOps.st 21 rfl rfl rfl (op_fieldAddr_m rfl tf_86_0 rfl ?_)) | (refine AOps.st 21 rfl rfl rfl (op_fieldAddr_c rfl tf_86_0 rfl rfl ?_))
    first | (refine AOps.st 22 rfl rfl rfl (op_load_m1 (i := 0) rfl ta_3 rfl rfl rfl ?_)) | (refine AOps.st 22 rfl rfl rfl (op_load_m1 (i := 1) rfl ta_3 rfl rfl rfl ?_)) | (refine AOps.st 22 rfl rfl rfl (op_load_m1 (i := 2) rfl ta_3 rfl rfl rfl ?_)) | (refine AOps.st 22 rfl rfl rfl (op_load_m1 (i := 3) rfl ta_3 rfl rfl rfl ?_)) | (refine AOps.st 22 rfl rfl rfl (op_load_m1 (i := 4) rfl ta_3 rfl rfl rfl ?_)) | (refine AOps.st 22 rfl rfl rfl (op_load_m1 (i := 5) rfl ta_3 rfl rfl rfl ?_)) | (refine AOps.st 22 rfl rfl rfl (op_load_m1 (i := 6) rfl ta_3 rfl rfl rfl ?_)) | (refine AOps.st 22 rfl rfl rfl (op_load_m1 (i := 7) rfl ta_3 rfl rfl rfl ?_)) | (refine AOps.st 22 rfl rfl rfl (op_load_m1 (i := 8) rfl ta_3 rfl rfl rfl ?_)) | (refine AOps.st 22 rfl rfl rfl (op_load_m1 (i := 9) rfl ta_3 rfl rfl rfl ?_)) | (refine AOps.st 22 rfl rfl rfl (op_load_c1 rfl ta_3 rfl rfl ?_))
    first | (refine AOps.st 23 rfl rfl rfl (op_mul rfl rfl rfl (IntWalk.i64_in _ (by omega)) ?_)) | (refine AOps.st 23 rfl rfl rfl (op_mul rfl rfl rfl rfl ?_))
    first | (refine AOps.st 24 rfl rfl rfl (op_convert rfl tu_3 tu_42 rfl (IntWalk.u64_in _ (by omega)) ?_)) | (refine AOps.st 24 rfl rfl rfl (op_convert rfl tu_3 tu_42 rfl rfl ?_))
    refine AOps.st 25 rfl rfl rfl (op_move rfl rfl ?_)
    refine AOps.st 26 rfl rfl rfl (op_eql rfl rfl rfl ?_); intro c26 h26
    refine AOps.nil ?_
    refine go_code ?_
    rcases bool_split h26 with ⟨rfl, g26⟩ | ⟨rfl, g26⟩
    · refine c_cond_f rfl ?_
      refine c_skip ?_
      refine go_blk ?_
      refine go_code ?_
      refine c_region ?_
      refine AOps.st 13 rfl rfl rfl (op_move rfl rfl ?_)
      first | (refine AOps.st 14 rfl rfl rfl (op_add rfl rfl rfl (IntWalk.i64_in _ (by omega)) ?_)) | (refine AOps.st 14 rfl rfl rfl (op_add rfl rfl rfl rfl ?_))
      refine AOps.st 5 rfl rfl rfl (op_assign rfl rfl ?_)
      refine AOps.nil ?_
      refine go_lp ?_
      exact ⟨k + 1, ⟨by have := get_lt ho; omega, by rw [hob2, if_neg (by omega)]⟩, by have := get_lt ho; show H.length - (k + 1) < H.length - k; omega, (by repeat' (first | exact SLe.nil _ | refine SLe.cons rfl ?_ ?_ | exact Le.refl _ | exact Le.own _ _ _ | exact Le.nil _)), (by first | exact MLe.none _ | exact MLe.refl _ | (repeat' (first | exact MLe.nil | exact MLe.refl _ | refine MLe.cons _ ?_ | refine MLe.drop _ ?_)))⟩
    · refine c_cond_t rfl ?_
      refine c_seq ?_
      refine c_region ?_
      refine AOps.st 27 rfl rfl rfl (op_move rfl rfl ?_)
      refine AOps.st 4 rfl rfl rfl (op_assign rfl rfl ?_)
      refine AOps.nil ?_
      refine go_code ?_
      refine c_ret ?_
      exact out_tmp rfl rfl (Le.refl _) (by first | exact MLe.none _ | exact MLe.refl _ | (repeat' (first | exact MLe.nil | exact MLe.refl _ | refine MLe.cons _ ?_ | refine MLe.drop _ ?_))) ⟨.inl ⟨k, o, ho, by rw [hob2, if_pos (by omega)], rfl⟩, rfl⟩
theorem Le.owns {u : Value} {m : Nat} {es es2 : List (List AV)} (h : Less es es2) : Le (.own u m es) (.own u m es2) := fun F x k => by
  cases k with
  | own _ k => exact .own _ (Le.seq h _ _ k)
set_option maxHeartbeats 4000000 in
set_option maxRecDepth 100000 in
theorem rAlloc_c (br : Nat) (sz : Int) (H : List HO) (M : Mem) (hM : RefAt br sz H M) (hs : sz ≤ 16777216) (hu : used H ≤ 16777216) (hH : H.length ≤ 16777216) (kd tg : Int) (ps : List Int) (hl : ps.length ≤ 100000000) :
    ACall Try.prog 40 [.ptr br 0, .val (.int .i64 kd), .val (.int .i64 tg), .seq 1 (ps.map iv)] M (fun v M' => (Fits31 sz H kd tg ps ∧ v = .val (.int .u64 (2 * (used H + 1 : Int))) ∧ RefAt br sz (H ++ [⟨kd, tg, ps⟩]) M') ∨ (¬ Fits31 sz H kd tg ps ∧ v = .val (.int .u64 0) ∧ M' = M)) := by
  have hU := rUsed_c br sz H M hM hu
  obtain ⟨u, rfl⟩ := hM
  have hlr := oRows_len H 1
  have hlp : (ps.map iv).length = ps.length := by simp
  have happ := oRows_app H 1 ⟨kd, tg, ps⟩
  have hfit : Fits31 sz H kd tg ps ↔ (0 ≤ kd ∧ kd ≤ 3 ∧ 0 ≤ tg ∧ tg ≤ 65535 ∧ 0 < ps.length ∧ (used H : Int) + ps.length + 1 ≤ sz) := by
    unfold Fits31 headOk
    simp only [Bool.and_eq_true, decide_eq_true_eq]
    omega
  rw [hfit]
  refine ACall.enter Try.func40 rfl (by kernel_rfl) rfl (Nat.le_of_ble_eq_true rfl) ?_
  refine c_start ?_
  refine c_seq ?_
  refine c_region ?_
  refine AOps.st 8 rfl rfl rfl (op_assign rfl rfl ?_)
  refine AOps.nil ?_
  refine go_code ?_
  refine c_seq ?_
  refine c_seq ?_
  refine c_boold 42 (¬ (0 ≤ kd ∧ kd ≤ 3 ∧ 0 ≤ tg ∧ tg ≤ 65535 ∧ 0 < ps.length ∧ (used H : Int) + ps.length + 1 ≤ sz)) tmix rfl ?_ _ _ rfl ?_
  · skip
    refine DOps.st 11 rfl rfl (op_move rfl rfl ⟨rfl, rfl⟩) ?_
    refine DOps.cm 12 rfl rfl (fun _ q => op_lss rfl rfl rfl q) ?_; intro c12 h12
    refine DOps.st 13 rfl rfl (op_move rfl rfl ⟨rfl, rfl⟩) ?_
    rcases bool_split h12 with ⟨rfl, g12⟩ | ⟨rfl, g12⟩
    · skip
      refine DOps.gt 14 rfl rfl rfl rfl (op_move rfl rfl ⟨rfl, rfl⟩) ?_
      refine DOps.gtc 15 rfl rfl rfl rfl (fun _ q => op_gtr rfl rfl rfl q) ?_; intro c15 h15
      refine DOps.st 16 rfl rfl (op_pick rfl rfl rfl ⟨rfl, rfl⟩) ?_
      refine DOps.st 17 rfl rfl (op_move rfl rfl ⟨rfl, rfl⟩) ?_
      rcases bool_split h15 with ⟨rfl, g15⟩ | ⟨rfl, g15⟩
      · skip
        refine DOps.gt 18 rfl rfl rfl rfl (op_move rfl rfl ⟨rfl, rfl⟩) ?_
        refine DOps.gtc 19 rfl rfl rfl rfl (fun _ q => op_lss rfl rfl rfl q) ?_; intro c19 h19
        refine DOps.st 20 rfl rfl (op_pick rfl rfl rfl ⟨rfl, rfl⟩) ?_
        refine DOps.st 21 rfl rfl (op_move rfl rfl ⟨rfl, rfl⟩) ?_
        rcases bool_split h19 with ⟨rfl, g19⟩ | ⟨rfl, g19⟩
        · skip
          refine DOps.gt 22 rfl rfl rfl rfl (op_move rfl rfl ⟨rfl, rfl⟩) ?_
          refine DOps.gtc 23 rfl rfl rfl rfl (fun _ q => op_gtr rfl rfl rfl q) ?_; intro c23 h23
          refine DOps.st 24 rfl rfl (op_pick rfl rfl rfl ⟨rfl, rfl⟩) ?_
          refine DOps.st 25 rfl rfl (op_move rfl rfl ⟨rfl, rfl⟩) ?_
          rcases bool_split h23 with ⟨rfl, g23⟩ | ⟨rfl, g23⟩
          · skip
            refine DOps.gt 26 rfl rfl rfl rfl (op_move rfl rfl ⟨rfl, rfl⟩) ?_
            first | (refine DOps.gt 27 rfl rfl rfl rfl (op_len rfl tu_34 rfl (.seq _ _) (fun _ => ⟨rfl, rfl⟩)) ?_) | (refine DOps.gt 27 rfl rfl rfl rfl (op_len rfl tu_34 rfl (.own _ _ _) (fun _ => ⟨rfl, rfl⟩)) ?_) | (refine DOps.gt 27 rfl rfl rfl rfl (op_len rfl tu_34 rfl (.nil 0) (fun _ => ⟨rfl, rfl⟩)) ?_) | (refine DOps.gt 27 rfl rfl rfl rfl (op_len_arr rfl tu_34 rfl ⟨rfl, rfl⟩) ?_)
            refine DOps.gtc 28 rfl rfl rfl rfl (fun _ q => op_eql rfl rfl rfl q) ?_; intro c28 h28
            refine DOps.st 29 rfl rfl (op_pick rfl rfl rfl ⟨rfl, rfl⟩) ?_
            refine DOps.st 30 rfl rfl (op_move rfl rfl ⟨rfl, rfl⟩) ?_
            rcases bool_split h28 with ⟨rfl, g28⟩ | ⟨rfl, g28⟩
            · skip
              refine DOps.gt 31 rfl rfl rfl rfl (op_move rfl rfl ⟨rfl, rfl⟩) ?_
              refine DOps.gt 32 rfl rfl rfl rfl (op_callk (xs := [.tmp 31]) [0,0] rfl rfl rfl (hU) (by first | exact Les.refl _ | (repeat' (first | exact Les.refl _ | refine Les.cons ?_ ?_ | exact Le.refl _ | exact Le.own _ _ _ | exact Le.nil _ | refine Le.agg ?_))) ⟨rfl, rfl⟩) ?_
              first | (refine DOps.gt 33 rfl rfl rfl rfl (op_add rfl rfl rfl (IntWalk.i64_in _ (by omega)) ⟨rfl, rfl⟩) ?_) | (refine DOps.gt 33 rfl rfl rfl rfl (op_add rfl rfl rfl rfl ⟨rfl, rfl⟩) ?_)
              refine DOps.gt 34 rfl rfl rfl rfl (op_move rfl rfl ⟨rfl, rfl⟩) ?_
              first | (refine DOps.gt 35 rfl rfl rfl rfl (op_len rfl tu_34 rfl (.seq _ _) (fun _ => ⟨rfl, rfl⟩)) ?_) | (refine DOps.gt 35 rfl rfl rfl rfl (op_len rfl tu_34 rfl (.own _ _ _) (fun _ => ⟨rfl, rfl⟩)) ?_) | (refine DOps.gt 35 rfl rfl rfl rfl (op_len rfl tu_34 rfl (.nil 0) (fun _ => ⟨rfl, rfl⟩)) ?_) | (refine DOps.gt 35 rfl rfl rfl rfl (op_len_arr rfl tu_34 rfl ⟨rfl, rfl⟩) ?_)
              first | (refine DOps.gt 36 rfl rfl rfl rfl (op_add rfl rfl rfl (IntWalk.i64_in _ (by omega)) ⟨rfl, rfl⟩) ?_) | (refine DOps.gt 36 rfl rfl rfl rfl (op_add rfl rfl rfl rfl ⟨rfl, rfl⟩) ?_)
              refine DOps.gt 37 rfl rfl rfl rfl (op_move rfl rfl ⟨rfl, rfl⟩) ?_
              first | (refine DOps.gt 38 rfl rfl rfl rfl (op_nilCheck_m rfl rfl ⟨rfl, rfl⟩) ?_) | (refine DOps.gt 38 rfl rfl rfl rfl (op_nilCheck_c rfl rfl ⟨rfl, rfl⟩) ?_) | (refine DOps.gt 38 rfl rfl rfl rfl (op_nilCheck_f rfl rfl ⟨rfl, rfl⟩) ?_)
              first | (refine DOps.gt 39 rfl rfl rfl rfl (op_fieldAddr_m rfl tf_33_0 rfl ⟨rfl, rfl⟩) ?_) | (refine DOps.gt 39 rfl rfl rfl rfl (op_fieldAddr_c rfl tf_33_0 rfl rfl ⟨rfl, rfl⟩) ?_)
              first | (refine DOps.gt 40 rfl rfl rfl rfl (op_load_m1 (i := 0) rfl ta_3 rfl rfl rfl ⟨rfl, rfl⟩) ?_) | (refine DOps.gt 40 rfl rfl rfl rfl (op_load_m1 (i := 1) rfl ta_3 rfl rfl rfl ⟨rfl, rfl⟩) ?_) | (refine DOps.gt 40 rfl rfl rfl rfl (op_load_m1 (i := 2) rfl ta_3 rfl rfl rfl ⟨rfl, rfl⟩) ?_) | (refine DOps.gt 40 rfl rfl rfl rfl (op_load_m1 (i := 3) rfl ta_3 rfl rfl rfl ⟨rfl, rfl⟩) ?_) | (refine DOps.gt 40 rfl rfl rfl rfl (op_load_m1 (i := 4) rfl ta_3 rfl rfl rfl ⟨rfl, rfl⟩) ?_) | (refine DOps.gt 40 rfl rfl rfl rfl (op_load_m1 (i := 5) rfl ta_3 rfl rfl rfl ⟨rfl, rfl⟩) ?_) | (refine DOps.gt 40 rfl rfl rfl rfl (op_load_m1 (i := 6) rfl ta_3 rfl rfl rfl ⟨rfl, rfl⟩) ?_) | (refine DOps.gt 40 rfl rfl rfl rfl (op_load_m1 (i := 7) rfl ta_3 rfl rfl rfl ⟨rfl, rfl⟩) ?_) | (refine DOps.gt 40 rfl rfl rfl rfl (op_load_m1 (i := 8) rfl ta_3 rfl rfl rfl ⟨rfl, rfl⟩) ?_) | (refine DOps.gt 40 rfl rfl rfl rfl (op_load_m1 (i := 9) rfl ta_3 rfl rfl rfl ⟨rfl, rfl⟩) ?_) | (refine DOps.gt 40 rfl rfl rfl rfl (op_load_c1 rfl ta_3 rfl rfl ⟨rfl, rfl⟩) ?_)
              refine DOps.gtc 41 rfl rfl rfl rfl (fun _ q => op_gtr rfl rfl rfl q) ?_; intro c41 h41
              refine DOps.st 42 rfl rfl (op_pick rfl rfl rfl ⟨rfl, rfl⟩) ?_
              show BoolQ _ _ _ _ _ _
              refine BoolQ.mk rfl ?_ (by repeat' (first | exact SLe.wo _ _ | exact SLe.refl _ | refine SLe.fresh rfl ?_)) (by first | exact MLe.none _ | exact MLe.refl _ | (repeat' (first | exact MLe.nil | exact MLe.refl _ | refine MLe.cons _ ?_ | refine MLe.drop _ ?_)))
              first | (simp_all; done) | (simp_all; omega) | grind
            · skip
              refine DOps.gf 31 rfl rfl rfl rfl ?_
              refine DOps.gf 32 rfl rfl rfl rfl ?_
              refine DOps.gf 33 rfl rfl rfl rfl ?_
              refine DOps.gf 34 rfl rfl rfl rfl ?_
              refine DOps.gf 35 rfl rfl rfl rfl ?_
              refine DOps.gf 36 rfl rfl rfl rfl ?_
              refine DOps.gf 37 rfl rfl rfl rfl ?_
              refine DOps.gf 38 rfl rfl rfl rfl ?_
              refine DOps.gf 39 rfl rfl rfl rfl ?_
              refine DOps.gf 40 rfl rfl rfl rfl ?_
              refine DOps.gf 41 rfl rfl rfl rfl ?_
              refine DOps.st 42 rfl rfl (op_pick rfl rfl rfl ⟨rfl, rfl⟩) ?_
              show BoolQ _ _ _ _ _ _
              refine BoolQ.mk rfl ?_ (by repeat' (first | exact SLe.wo _ _ | exact SLe.refl _ | refine SLe.fresh rfl ?_)) (by first | exact MLe.none _ | exact MLe.refl _ | (repeat' (first | exact MLe.nil | exact MLe.refl _ | refine MLe.cons _ ?_ | refine MLe.drop _ ?_)))
              first | (simp_all; done) | (simp_all; omega) | grind
          · skip
            refine DOps.gf 26 rfl rfl rfl rfl ?_
            refine DOps.gf 27 rfl rfl rfl rfl ?_
            refine DOps.gf 28 rfl rfl rfl rfl ?_
            refine DOps.st 29 rfl rfl (op_pick rfl rfl rfl ⟨rfl, rfl⟩) ?_
            refine DOps.st 30 rfl rfl (op_move rfl rfl ⟨rfl, rfl⟩) ?_
            refine DOps.gf 31 rfl rfl rfl rfl ?_
            refine DOps.gf 32 rfl rfl rfl rfl ?_
            refine DOps.gf 33 rfl rfl rfl rfl ?_
            refine DOps.gf 34 rfl rfl rfl rfl ?_
            refine DOps.gf 35 rfl rfl rfl rfl ?_
            refine DOps.gf 36 rfl rfl rfl rfl ?_
            refine DOps.gf 37 rfl rfl rfl rfl ?_
            refine DOps.gf 38 rfl rfl rfl rfl ?_
            refine DOps.gf 39 rfl rfl rfl rfl ?_
            refine DOps.gf 40 rfl rfl rfl rfl ?_
            refine DOps.gf 41 rfl rfl rfl rfl ?_
            refine DOps.st 42 rfl rfl (op_pick rfl rfl rfl ⟨rfl, rfl⟩) ?_
            show BoolQ _ _ _ _ _ _
            refine BoolQ.mk rfl ?_ (by repeat' (first | exact SLe.wo _ _ | exact SLe.refl _ | refine SLe.fresh rfl ?_)) (by first | exact MLe.none _ | exact MLe.refl _ | (repeat' (first | exact MLe.nil | exact MLe.refl _ | refine MLe.cons _ ?_ | refine MLe.drop _ ?_)))
            first | (simp_all; done) | (simp_all; omega) | grind
        · skip
          refine DOps.gf 22 rfl rfl rfl rfl ?_
          refine DOps.gf 23 rfl rfl rfl rfl ?_
          refine DOps.st 24 rfl rfl (op_pick rfl rfl rfl ⟨rfl, rfl⟩) ?_
          refine DOps.st 25 rfl rfl (op_move rfl rfl ⟨rfl, rfl⟩) ?_
          refine DOps.gf 26 rfl rfl rfl rfl ?_
          refine DOps.gf 27 rfl rfl rfl rfl ?_
          refine DOps.gf 28 rfl rfl rfl rfl ?_
          refine DOps.st 29 rfl rfl (op_pick rfl rfl rfl ⟨rfl, rfl⟩) ?_
          refine DOps.st 30 rfl rfl (op_move rfl rfl ⟨rfl, rfl⟩) ?_
          refine DOps.gf 31 rfl rfl rfl rfl ?_
          refine DOps.gf 32 rfl rfl rfl rfl ?_
          refine DOps.gf 33 rfl rfl rfl rfl ?_
          refine DOps.gf 34 rfl rfl rfl rfl ?_
          refine DOps.gf 35 rfl rfl rfl rfl ?_
          refine DOps.gf 36 rfl rfl rfl rfl ?_
          refine DOps.gf 37 rfl rfl rfl rfl ?_
          refine DOps.gf 38 rfl rfl rfl rfl ?_
          refine DOps.gf 39 rfl rfl rfl rfl ?_
          refine DOps.gf 40 rfl rfl rfl rfl ?_
          refine DOps.gf 41 rfl rfl rfl rfl ?_
          refine DOps.st 42 rfl rfl (op_pick rfl rfl rfl ⟨rfl, rfl⟩) ?_
          show BoolQ _ _ _ _ _ _
          refine BoolQ.mk rfl ?_ (by repeat' (first | exact SLe.wo _ _ | exact SLe.refl _ | refine SLe.fresh rfl ?_)) (by first | exact MLe.none _ | exact MLe.refl _ | (repeat' (first | exact MLe.nil | exact MLe.refl _ | refine MLe.cons _ ?_ | refine MLe.drop _ ?_)))
          first | (simp_all; done) | (simp_all; omega) | grind
      · skip
        refine DOps.gf 18 rfl rfl rfl rfl ?_
        refine DOps.gf 19 rfl rfl rfl rfl ?_
        refine DOps.st 20 rfl rfl (op_pick rfl rfl rfl ⟨rfl, rfl⟩) ?_
        refine DOps.st 21 rfl rfl (op_move rfl rfl ⟨rfl, rfl⟩) ?_
        refine DOps.gf 22 rfl rfl rfl rfl ?_
        refine DOps.gf 23 rfl rfl rfl rfl ?_
        refine DOps.st 24 rfl rfl (op_pick rfl rfl rfl ⟨rfl, rfl⟩) ?_
        refine DOps.st 25 rfl rfl (op_move rfl rfl ⟨rfl, rfl⟩) ?_
        refine DOps.gf 26 rfl rfl rfl rfl ?_
        refine DOps.gf 27 rfl rfl rfl rfl ?_
        refine DOps.gf 28 rfl rfl rfl rfl ?_
        refine DOps.st 29 rfl rfl (op_pick rfl rfl rfl ⟨rfl, rfl⟩) ?_
        refine DOps.st 30 rfl rfl (op_move rfl rfl ⟨rfl, rfl⟩) ?_
        refine DOps.gf 31 rfl rfl rfl rfl ?_
        refine DOps.gf 32 rfl rfl rfl rfl ?_
        refine DOps.gf 33 rfl rfl rfl rfl ?_
        refine DOps.gf 34 rfl rfl rfl rfl ?_
        refine DOps.gf 35 rfl rfl rfl rfl ?_
        refine DOps.gf 36 rfl rfl rfl rfl ?_
        refine DOps.gf 37 rfl rfl rfl rfl ?_
        refine DOps.gf 38 rfl rfl rfl rfl ?_
        refine DOps.gf 39 rfl rfl rfl rfl ?_
        refine DOps.gf 40 rfl rfl rfl rfl ?_
        refine DOps.gf 41 rfl rfl rfl rfl ?_
        refine DOps.st 42 rfl rfl (op_pick rfl rfl rfl ⟨rfl, rfl⟩) ?_
        show BoolQ _ _ _ _ _ _
        refine BoolQ.mk rfl ?_ (by repeat' (first | exact SLe.wo _ _ | exact SLe.refl _ | refine SLe.fresh rfl ?_)) (by first | exact MLe.none _ | exact MLe.refl _ | (repeat' (first | exact MLe.nil | exact MLe.refl _ | refine MLe.cons _ ?_ | refine MLe.drop _ ?_)))
        first | (simp_all; done) | (simp_all; omega) | grind
    · skip
      refine DOps.gf 14 rfl rfl rfl rfl ?_
      refine DOps.gf 15 rfl rfl rfl rfl ?_
      refine DOps.st 16 rfl rfl (op_pick rfl rfl rfl ⟨rfl, rfl⟩) ?_
      refine DOps.st 17 rfl rfl (op_move rfl rfl ⟨rfl, rfl⟩) ?_
      refine DOps.gf 18 rfl rfl rfl rfl ?_
      refine DOps.gf 19 rfl rfl rfl rfl ?_
      refine DOps.st 20 rfl rfl (op_pick rfl rfl rfl ⟨rfl, rfl⟩) ?_
      refine DOps.st 21 rfl rfl (op_move rfl rfl ⟨rfl, rfl⟩) ?_
      refine DOps.gf 22 rfl rfl rfl rfl ?_
      refine DOps.gf 23 rfl rfl rfl rfl ?_
      refine DOps.st 24 rfl rfl (op_pick rfl rfl rfl ⟨rfl, rfl⟩) ?_
      refine DOps.st 25 rfl rfl (op_move rfl rfl ⟨rfl, rfl⟩) ?_
      refine DOps.gf 26 rfl rfl rfl rfl ?_
      refine DOps.gf 27 rfl rfl rfl rfl ?_
      refine DOps.gf 28 rfl rfl rfl rfl ?_
      refine DOps.st 29 rfl rfl (op_pick rfl rfl rfl ⟨rfl, rfl⟩) ?_
      refine DOps.st 30 rfl rfl (op_move rfl rfl ⟨rfl, rfl⟩) ?_
      refine DOps.gf 31 rfl rfl rfl rfl ?_
      refine DOps.gf 32 rfl rfl rfl rfl ?_
      refine DOps.gf 33 rfl rfl rfl rfl ?_
      refine DOps.gf 34 rfl rfl rfl rfl ?_
      refine DOps.gf 35 rfl rfl rfl rfl ?_
      refine DOps.gf 36 rfl rfl rfl rfl ?_
      refine DOps.gf 37 rfl rfl rfl rfl ?_
      refine DOps.gf 38 rfl rfl rfl rfl ?_
      refine DOps.gf 39 rfl rfl rfl rfl ?_
      refine DOps.gf 40 rfl rfl rfl rfl ?_
      refine DOps.gf 41 rfl rfl rfl rfl ?_
      refine DOps.st 42 rfl rfl (op_pick rfl rfl rfl ⟨rfl, rfl⟩) ?_
      show BoolQ _ _ _ _ _ _
      refine BoolQ.mk rfl ?_ (by repeat' (first | exact SLe.wo _ _ | exact SLe.refl _ | refine SLe.fresh rfl ?_)) (by first | exact MLe.none _ | exact MLe.refl _ | (repeat' (first | exact MLe.nil | exact MLe.refl _ | refine MLe.cons _ ?_ | refine MLe.drop _ ?_)))
      first | (simp_all; done) | (simp_all; omega) | grind
  intro c42 h42
  refine go_code ?_
  rcases bool_split h42 with ⟨rfl, g42⟩ | ⟨rfl, g42⟩
  · refine c_cond_f rfl ?_
    refine c_skip ?_
    refine go_code ?_
    refine c_seq ?_
    refine c_region ?_
    refine AOps.st 9 rfl rfl rfl (op_assign rfl rfl ?_)
    refine AOps.nil ?_
    refine go_code ?_
    refine c_seq ?_
    refine c_region ?_
    refine AOps.st 43 rfl rfl rfl (op_move rfl rfl ?_)
    refine AOps.st 44 rfl rfl rfl (op_callk (xs := [.tmp 43]) [0,0] rfl rfl rfl (hU) (by first | exact Les.refl _ | (repeat' (first | exact Les.refl _ | refine Les.cons ?_ ?_ | exact Le.refl _ | exact Le.own _ _ _ | exact Le.nil _ | refine Le.agg ?_))) ?_)
    first | (refine AOps.st 45 rfl rfl rfl (op_add rfl rfl rfl (IntWalk.i64_in _ (by omega)) ?_)) | (refine AOps.st 45 rfl rfl rfl (op_add rfl rfl rfl rfl ?_))
    refine AOps.st 10 rfl rfl rfl (op_assign rfl rfl ?_)
    refine AOps.nil ?_
    refine go_code ?_
    refine c_seq ?_
    refine c_drawnE [0, 1, 2, 3, 4, 5, 6, 7, 8, 9, 10, 11, 12, 13, 14, 15, 16] [10, 13, 16] [[], [], [1], [1, 2], [1, 2, 3], [], [], [], [], [], [8, 9], [5, 6, 7, 8, 9, 10], [5, 6, 7, 8, 9, 10, 11], [1, 2, 3, 4, 5, 6, 7, 8, 9, 10, 11, 12], [0, 1, 2, 3, 4, 5, 6, 7, 8, 9, 10, 11, 12, 13], [0, 1, 2, 3, 4, 5, 6, 7, 8, 9, 10, 11, 12, 13, 14], [0, 1, 2, 3, 4, 5, 6, 7, 8, 9, 10, 11, 12, 13, 14, 15]] tmix rfl ?_
    refine EOps.d 46 (none) (i := 0) rfl rfl rfl rfl rfl (op_move rfl rfl ⟨rfl, rfl⟩) ?_
    refine EOps.d 47 (none) (i := 1) rfl rfl rfl rfl rfl (op_move rfl rfl ⟨rfl, rfl⟩) ?_
    first | (refine EOps.d 48 (none) (i := 2) rfl rfl rfl rfl rfl (op_nilCheck_m rfl rfl ⟨rfl, rfl⟩) ?_) | (refine EOps.d 48 (none) (i := 2) rfl rfl rfl rfl rfl (op_nilCheck_c rfl rfl ⟨rfl, rfl⟩) ?_) | (refine EOps.d 48 (none) (i := 2) rfl rfl rfl rfl rfl (op_nilCheck_f rfl rfl ⟨rfl, rfl⟩) ?_)
    first | (refine EOps.d 49 (none) (i := 3) rfl rfl rfl rfl rfl (op_fieldAddr_m rfl tf_33_1 rfl ⟨rfl, rfl⟩) ?_) | (refine EOps.d 49 (none) (i := 3) rfl rfl rfl rfl rfl (op_fieldAddr_c rfl tf_33_1 rfl rfl ⟨rfl, rfl⟩) ?_)
    first | (refine EOps.d 50 (some 0) (i := 4) rfl rfl rfl rfl rfl (op_load_m1 (i := 0) rfl ta_31 rfl rfl rfl ⟨rfl, rfl⟩) ?_) | (refine EOps.d 50 (some 1) (i := 4) rfl rfl rfl rfl rfl (op_load_m1 (i := 0) rfl ta_31 rfl rfl rfl ⟨rfl, rfl⟩) ?_) | (refine EOps.d 50 (some 2) (i := 4) rfl rfl rfl rfl rfl (op_load_m1 (i := 0) rfl ta_31 rfl rfl rfl ⟨rfl, rfl⟩) ?_) | (refine EOps.d 50 (some 3) (i := 4) rfl rfl rfl rfl rfl (op_load_m1 (i := 0) rfl ta_31 rfl rfl rfl ⟨rfl, rfl⟩) ?_) | (refine EOps.d 50 (some 4) (i := 4) rfl rfl rfl rfl rfl (op_load_m1 (i := 0) rfl ta_31 rfl rfl rfl ⟨rfl, rfl⟩) ?_) | (refine EOps.d 50 (some 5) (i := 4) rfl rfl rfl rfl rfl (op_load_m1 (i := 0) rfl ta_31 rfl rfl rfl ⟨rfl, rfl⟩) ?_) | (refine EOps.d 50 (some 6) (i := 4) rfl rfl rfl rfl rfl (op_load_m1 (i := 0) rfl ta_31 rfl rfl rfl ⟨rfl, rfl⟩) ?_) | (refine EOps.d 50 (some 7) (i := 4) rfl rfl rfl rfl rfl (op_load_m1 (i := 0) rfl ta_31 rfl rfl rfl ⟨rfl, rfl⟩) ?_) | (refine EOps.d 50 (some 8) (i := 4) rfl rfl rfl rfl rfl (op_load_m1 (i := 0) rfl ta_31 rfl rfl rfl ⟨rfl, rfl⟩) ?_) | (refine EOps.d 50 (some 9) (i := 4) rfl rfl rfl rfl rfl (op_load_m1 (i := 0) rfl ta_31 rfl rfl rfl ⟨rfl, rfl⟩) ?_) | (refine EOps.d 50 (none) (i := 4) rfl rfl rfl rfl rfl (op_load_c1 rfl ta_31 rfl rfl ⟨rfl, rfl⟩) ?_)
    refine EOps.d 51 (none) (i := 5) rfl rfl rfl rfl rfl (op_move rfl rfl ⟨rfl, rfl⟩) ?_
    refine EOps.d 52 (none) (i := 6) rfl rfl rfl rfl rfl (op_move rfl rfl ⟨rfl, rfl⟩) ?_
    refine EOps.d 53 (none) (i := 7) rfl rfl rfl rfl rfl (op_move rfl rfl ⟨rfl, rfl⟩) ?_
    refine EOps.d 54 (none) (i := 8) rfl rfl rfl rfl rfl (op_move rfl rfl ⟨rfl, rfl⟩) ?_
    refine EOps.d 55 (none) (i := 9) rfl rfl rfl rfl rfl (op_move rfl rfl ⟨rfl, rfl⟩) ?_
    first | (refine EOps.w 0 (i := 10) rfl rfl rfl rfl rfl (op_append (i := 0) el_34 rfl rfl rfl rfl (.seq _ _) (by first | (simp; done) | (simp; omega) | omega) (fun u56 => ⟨_, rfl, ?_⟩))) | (refine EOps.w 1 (i := 10) rfl rfl rfl rfl rfl (op_append (i := 0) el_34 rfl rfl rfl rfl (.seq _ _) (by first | (simp; done) | (simp; omega) | omega) (fun u56 => ⟨_, rfl, ?_⟩))) | (refine EOps.w 2 (i := 10) rfl rfl rfl rfl rfl (op_append (i := 0) el_34 rfl rfl rfl rfl (.seq _ _) (by first | (simp; done) | (simp; omega) | omega) (fun u56 => ⟨_, rfl, ?_⟩))) | (refine EOps.w 3 (i := 10) rfl rfl rfl rfl rfl (op_append (i := 0) el_34 rfl rfl rfl rfl (.seq _ _) (by first | (simp; done) | (simp; omega) | omega) (fun u56 => ⟨_, rfl, ?_⟩))) | (refine EOps.w 4 (i := 10) rfl rfl rfl rfl rfl (op_append (i := 0) el_34 rfl rfl rfl rfl (.seq _ _) (by first | (simp; done) | (simp; omega) | omega) (fun u56 => ⟨_, rfl, ?_⟩))) | (refine EOps.w 5 (i := 10) rfl rfl rfl rfl rfl (op_append (i := 0) el_34 rfl rfl rfl rfl (.seq _ _) (by first | (simp; done) | (simp; omega) | omega) (fun u56 => ⟨_, rfl, ?_⟩))) | (refine EOps.w 6 (i := 10) rfl rfl rfl rfl rfl (op_append (i := 0) el_34 rfl rfl rfl rfl (.seq _ _) (by first | (simp; done) | (simp; omega) | omega) (fun u56 => ⟨_, rfl, ?_⟩))) | (refine EOps.w 7 (i := 10) rfl rfl rfl rfl rfl (op_append (i := 0) el_34 rfl rfl rfl rfl (.seq _ _) (by first | (simp; done) | (simp; omega) | omega) (fun u56 => ⟨_, rfl, ?_⟩))) | (refine EOps.w 8 (i := 10) rfl rfl rfl rfl rfl (op_append (i := 0) el_34 rfl rfl rfl rfl (.seq _ _) (by first | (simp; done) | (simp; omega) | omega) (fun u56 => ⟨_, rfl, ?_⟩))) | (refine EOps.w 9 (i := 10) rfl rfl rfl rfl rfl (op_append (i := 0) el_34 rfl rfl rfl rfl (.seq _ _) (by first | (simp; done) | (simp; omega) | omega) (fun u56 => ⟨_, rfl, ?_⟩))) | (refine EOps.w 0 (i := 10) rfl rfl rfl rfl rfl (op_append (i := 0) el_34 rfl rfl rfl rfl (.own _ _ _) (by first | (simp; done) | (simp; omega) | omega) (fun u56 => ⟨_, rfl, ?_⟩))) | (refine EOps.w 1 (i := 10) rfl rfl rfl rfl rfl (op_append (i := 0) el_34 rfl rfl rfl rfl (.own _ _ _) (by first | (simp; done) | (simp; omega) | omega) (fun u56 => ⟨_, rfl, ?_⟩))) | (refine EOps.w 2 (i := 10) rfl rfl rfl rfl rfl (op_append (i := 0) el_34 rfl rfl rfl rfl (.own _ _ _) (by first | (simp; done) | (simp; omega) | omega) (fun u56 => ⟨_, rfl, ?_⟩))) | (refine EOps.w 3 (i := 10) rfl rfl rfl rfl rfl (op_append (i := 0) el_34 rfl rfl rfl rfl (.own _ _ _) (by first | (simp; done) | (simp; omega) | omega) (fun u56 => ⟨_, rfl, ?_⟩))) | (refine EOps.w 4 (i := 10) rfl rfl rfl rfl rfl (op_append (i := 0) el_34 rfl rfl rfl rfl (.own _ _ _) (by first | (simp; done) | (simp; omega) | omega) (fun u56 => ⟨_, rfl, ?_⟩))) | (refine EOps.w 5 (i := 10) rfl rfl rfl rfl rfl (op_append (i := 0) el_34 rfl rfl rfl rfl (.own _ _ _) (by first | (simp; done) | (simp; omega) | omega) (fun u56 => ⟨_, rfl, ?_⟩))) | (refine EOps.w 6 (i := 10) rfl rfl rfl rfl rfl (op_append (i := 0) el_34 rfl rfl rfl rfl (.own _ _ _) (by first | (simp; done) | (simp; omega) | omega) (fun u56 => ⟨_, rfl, ?_⟩))) | (refine EOps.w 7 (i := 10) rfl rfl rfl rfl rfl (op_append (i := 0) el_34 rfl rfl rfl rfl (.own _ _ _) (by first | (simp; done) | (simp; omega) | omega) (fun u56 => ⟨_, rfl, ?_⟩))) | (refine EOps.w 8 (i := 10) rfl rfl rfl rfl rfl (op_append (i := 0) el_34 rfl rfl rfl rfl (.own _ _ _) (by first | (simp; done) | (simp; omega) | omega) (fun u56 => ⟨_, rfl, ?_⟩))) | (refine EOps.w 9 (i := 10) rfl rfl rfl rfl rfl (op_append (i := 0) el_34 rfl rfl rfl rfl (.own _ _ _) (by first | (simp; done) | (simp; omega) | omega) (fun u56 => ⟨_, rfl, ?_⟩))) | (refine EOps.w 0 (i := 10) rfl rfl rfl rfl rfl (op_append (i := 0) el_34 rfl rfl rfl rfl (.nil _) (by first | (simp; done) | (simp; omega) | omega) (fun u56 => ⟨_, rfl, ?_⟩))) | (refine EOps.w 1 (i := 10) rfl rfl rfl rfl rfl (op_append (i := 0) el_34 rfl rfl rfl rfl (.nil _) (by first | (simp; done) | (simp; omega) | omega) (fun u56 => ⟨_, rfl, ?_⟩))) | (refine EOps.w 2 (i := 10) rfl rfl rfl rfl rfl (op_append (i := 0) el_34 rfl rfl rfl rfl (.nil _) (by first | (simp; done) | (simp; omega) | omega) (fun u56 => ⟨_, rfl, ?_⟩))) | (refine EOps.w 3 (i := 10) rfl rfl rfl rfl rfl (op_append (i := 0) el_34 rfl rfl rfl rfl (.nil _) (by first | (simp; done) | (simp; omega) | omega) (fun u56 => ⟨_, rfl, ?_⟩))) | (refine EOps.w 4 (i := 10) rfl rfl rfl rfl rfl (op_append (i := 0) el_34 rfl rfl rfl rfl (.nil _) (by first | (simp; done) | (simp; omega) | omega) (fun u56 => ⟨_, rfl, ?_⟩))) | (refine EOps.w 5 (i := 10) rfl rfl rfl rfl rfl (op_append (i := 0) el_34 rfl rfl rfl rfl (.nil _) (by first | (simp; done) | (simp; omega) | omega) (fun u56 => ⟨_, rfl, ?_⟩))) | (refine EOps.w 6 (i := 10) rfl rfl rfl rfl rfl (op_append (i := 0) el_34 rfl rfl rfl rfl (.nil _) (by first | (simp; done) | (simp; omega) | omega) (fun u56 => ⟨_, rfl, ?_⟩))) | (refine EOps.w 7 (i := 10) rfl rfl rfl rfl rfl (op_append (i := 0) el_34 rfl rfl rfl rfl (.nil _) (by first | (simp; done) | (simp; omega) | omega) (fun u56 => ⟨_, rfl, ?_⟩))) | (refine EOps.w 8 (i := 10) rfl rfl rfl rfl rfl (op_append (i := 0) el_34 rfl rfl rfl rfl (.nil _) (by first | (simp; done) | (simp; omega) | omega) (fun u56 => ⟨_, rfl, ?_⟩))) | (refine EOps.w 9 (i := 10) rfl rfl rfl rfl rfl (op_append (i := 0) el_34 rfl rfl rfl rfl (.nil _) (by first | (simp; done) | (simp; omega) | omega) (fun u56 => ⟨_, rfl, ?_⟩))) | (refine EOps.nw (i := 10) rfl rfl rfl (op_append_nil el_34 rfl rfl rfl (.seq _ _) (by first | (simp; done) | (simp; omega) | omega) (fun u56 => ⟨_, rfl, ?_⟩))) | (refine EOps.nw (i := 10) rfl rfl rfl (op_append_nil el_34 rfl rfl rfl (.own _ _ _) (by first | (simp; done) | (simp; omega) | omega) (fun u56 => ⟨_, rfl, ?_⟩))) | (refine EOps.nw (i := 10) rfl rfl rfl (op_append_nil el_34 rfl rfl rfl (.nil _) (by first | (simp; done) | (simp; omega) | omega) (fun u56 => ⟨_, rfl, ?_⟩)))
    refine EOps.d 57 (none) (i := 11) rfl rfl rfl rfl rfl (op_build (ns := [0, 1, 2, 3]) (xs := [.tmp 51, .tmp 52, .tmp 53, .tmp 56]) rfl tz_86 rfl tfl_86 rfl rfl rfl rfl ⟨rfl, rfl⟩) ?_
    refine EOps.d 58 (none) (i := 12) rfl rfl rfl rfl rfl (op_buildSlice (xs := [.tmp 57]) el_31 rfl rfl rfl rfl rfl rfl (Nat.le_of_ble_eq_true rfl) ⟨rfl, rfl⟩) ?_
    first | (refine EOps.w 0 (i := 13) rfl rfl rfl rfl rfl (op_append (i := 0) el_31 rfl rfl rfl rfl (.seq _ _) (by first | (simp; done) | (simp; omega) | omega) (fun u59 => ⟨_, rfl, ?_⟩))) | (refine EOps.w 1 (i := 13) rfl rfl rfl rfl rfl (op_append (i := 0) el_31 rfl rfl rfl rfl (.seq _ _) (by first | (simp; done) | (simp; omega) | omega) (fun u59 => ⟨_, rfl, ?_⟩))) | (refine EOps.w 2 (i := 13) rfl rfl rfl rfl rfl (op_append (i := 0) el_31 rfl rfl rfl rfl (.seq _ _) (by first | (simp; done) | (simp; omega) | omega) (fun u59 => ⟨_, rfl, ?_⟩))) | (refine EOps.w 3 (i := 13) rfl rfl rfl rfl rfl (op_append (i := 0) el_31 rfl rfl rfl rfl (.seq _ _) (by first | (simp; done) | (simp; omega) | omega) (fun u59 => ⟨_, rfl, ?_⟩))) | (refine EOps.w 4 (i := 13) rfl rfl rfl rfl rfl (op_append (i := 0) el_31 rfl rfl rfl rfl (.seq _ _) (by first | (simp; done) | (simp; omega) | omega) (fun u59 => ⟨_, rfl, ?_⟩))) | (refine EOps.w 5 (i := 13) rfl rfl rfl rfl rfl (op_append (i := 0) el_31 rfl rfl rfl rfl (.seq _ _) (by first | (simp; done) | (simp; omega) | omega) (fun u59 => ⟨_, rfl, ?_⟩))) | (refine EOps.w 6 (i := 13) rfl rfl rfl rfl rfl (op_append (i := 0) el_31 rfl rfl rfl rfl (.seq _ _) (by first | (simp; done) | (simp; omega) | omega) (fun u59 => ⟨_, rfl, ?_⟩))) | (refine EOps.w 7 (i := 13) rfl rfl rfl rfl rfl (op_append (i := 0) el_31 rfl rfl rfl rfl (.seq _ _) (by first | (simp; done) | (simp; omega) | omega) (fun u59 => ⟨_, rfl, ?_⟩))) | (refine EOps.w 8 (i := 13) rfl rfl rfl rfl rfl (op_append (i := 0) el_31 rfl rfl rfl rfl (.seq _ _) (by first | (simp; done) | (simp; omega) | omega) (fun u59 => ⟨_, rfl, ?_⟩))) | (refine EOps.w 9 (i := 13) rfl rfl rfl rfl rfl (op_append (i := 0) el_31 rfl rfl rfl rfl (.seq _ _) (by first | (simp; done) | (simp; omega) | omega) (fun u59 => ⟨_, rfl, ?_⟩))) | (refine EOps.w 0 (i := 13) rfl rfl rfl rfl rfl (op_append (i := 0) el_31 rfl rfl rfl rfl (.own _ _ _) (by first | (simp; done) | (simp; omega) | omega) (fun u59 => ⟨_, rfl, ?_⟩))) | (refine EOps.w 1 (i := 13) rfl rfl rfl rfl rfl (op_append (i := 0) el_31 rfl rfl rfl rfl (.own _ _ _) (by first | (simp; done) | (simp; omega) | omega) (fun u59 => ⟨_, rfl, ?_⟩))) | (refine EOps.w 2 (i := 13) rfl rfl rfl rfl rfl (op_append (i := 0) el_31 rfl rfl rfl rfl (.own _ _ _) (by first | (simp; done) | (simp; omega) | omega) (fun u59 => ⟨_, rfl, ?_⟩))) | (refine EOps.w 3 (i := 13) rfl rfl rfl rfl rfl (op_append (i := 0) el_31 rfl rfl rfl rfl (.own _ _ _) (by first | (simp; done) | (simp; omega) | omega) (fun u59 => ⟨_, rfl, ?_⟩))) | (refine EOps.w 4 (i := 13) rfl rfl rfl rfl rfl (op_append (i := 0) el_31 rfl rfl rfl rfl (.own _ _ _) (by first | (simp; done) | (simp; omega) | omega) (fun u59 => ⟨_, rfl, ?_⟩))) | (refine EOps.w 5 (i := 13) rfl rfl rfl rfl rfl (op_append (i := 0) el_31 rfl rfl rfl rfl (.own _ _ _) (by first | (simp; done) | (simp; omega) | omega) (fun u59 => ⟨_, rfl, ?_⟩))) | (refine EOps.w 6 (i := 13) rfl rfl rfl rfl rfl (op_append (i := 0) el_31 rfl rfl rfl rfl (.own _ _ _) (by first | (simp; done) | (simp; omega) | omega) (fun u59 => ⟨_, rfl, ?_⟩))) | (refine EOps.w 7 (i := 13) rfl rfl rfl rfl rfl (op_append (i := 0) el_31 rfl rfl rfl rfl (.own _ _ _) (by first | (simp; done) | (simp; omega) | omega) (fun u59 => ⟨_, rfl, ?_⟩))) | (refine EOps.w 8 (i := 13) rfl rfl rfl rfl rfl (op_append (i := 0) el_31 rfl rfl rfl rfl (.own _ _ _) (by first | (simp; done) | (simp; omega) | omega) (fun u59 => ⟨_, rfl, ?_⟩))) | (refine EOps.w 9 (i := 13) rfl rfl rfl rfl rfl (op_append (i := 0) el_31 rfl rfl rfl rfl (.own _ _ _) (by first | (simp; done) | (simp; omega) | omega) (fun u59 => ⟨_, rfl, ?_⟩))) | (refine EOps.w 0 (i := 13) rfl rfl rfl rfl rfl (op_append (i := 0) el_31 rfl rfl rfl rfl (.nil _) (by first | (simp; done) | (simp; omega) | omega) (fun u59 => ⟨_, rfl, ?_⟩))) | (refine EOps.w 1 (i := 13) rfl rfl rfl rfl rfl (op_append (i := 0) el_31 rfl rfl rfl rfl (.nil _) (by first | (simp; done) | (simp; omega) | omega) (fun u59 => ⟨_, rfl, ?_⟩))) | (refine EOps.w 2 (i := 13) rfl rfl rfl rfl rfl (op_append (i := 0) el_31 rfl rfl rfl rfl (.nil _) (by first | (simp; done) | (simp; omega) | omega) (fun u59 => ⟨_, rfl, ?_⟩))) | (refine EOps.w 3 (i := 13) rfl rfl rfl rfl rfl (op_append (i := 0) el_31 rfl rfl rfl rfl (.nil _) (by first | (simp; done) | (simp; omega) | omega) (fun u59 => ⟨_, rfl, ?_⟩))) | (refine EOps.w 4 (i := 13) rfl rfl rfl rfl rfl (op_append (i := 0) el_31 rfl rfl rfl rfl (.nil _) (by first | (simp; done) | (simp; omega) | omega) (fun u59 => ⟨_, rfl, ?_⟩))) | (refine EOps.w 5 (i := 13) rfl rfl rfl rfl rfl (op_append (i := 0) el_31 rfl rfl rfl rfl (.nil _) (by first | (simp; done) | (simp; omega) | omega) (fun u59 => ⟨_, rfl, ?_⟩))) | (refine EOps.w 6 (i := 13) rfl rfl rfl rfl rfl (op_append (i := 0) el_31 rfl rfl rfl rfl (.nil _) (by first | (simp; done) | (simp; omega) | omega) (fun u59 => ⟨_, rfl, ?_⟩))) | (refine EOps.w 7 (i := 13) rfl rfl rfl rfl rfl (op_append (i := 0) el_31 rfl rfl rfl rfl (.nil _) (by first | (simp; done) | (simp; omega) | omega) (fun u59 => ⟨_, rfl, ?_⟩))) | (refine EOps.w 8 (i := 13) rfl rfl rfl rfl rfl (op_append (i := 0) el_31 rfl rfl rfl rfl (.nil _) (by first | (simp; done) | (simp; omega) | omega) (fun u59 => ⟨_, rfl, ?_⟩))) | (refine EOps.w 9 (i := 13) rfl rfl rfl rfl rfl (op_append (i := 0) el_31 rfl rfl rfl rfl (.nil _) (by first | (simp; done) | (simp; omega) | omega) (fun u59 => ⟨_, rfl, ?_⟩))) | (refine EOps.nw (i := 13) rfl rfl rfl (op_append_nil el_31 rfl rfl rfl (.seq _ _) (by first | (simp; done) | (simp; omega) | omega) (fun u59 => ⟨_, rfl, ?_⟩))) | (refine EOps.nw (i := 13) rfl rfl rfl (op_append_nil el_31 rfl rfl rfl (.own _ _ _) (by first | (simp; done) | (simp; omega) | omega) (fun u59 => ⟨_, rfl, ?_⟩))) | (refine EOps.nw (i := 13) rfl rfl rfl (op_append_nil el_31 rfl rfl rfl (.nil _) (by first | (simp; done) | (simp; omega) | omega) (fun u59 => ⟨_, rfl, ?_⟩)))
    first | (refine EOps.d 60 (none) (i := 14) rfl rfl rfl rfl rfl (op_nilCheck_m rfl rfl ⟨rfl, rfl⟩) ?_) | (refine EOps.d 60 (none) (i := 14) rfl rfl rfl rfl rfl (op_nilCheck_c rfl rfl ⟨rfl, rfl⟩) ?_) | (refine EOps.d 60 (none) (i := 14) rfl rfl rfl rfl rfl (op_nilCheck_f rfl rfl ⟨rfl, rfl⟩) ?_)
    first | (refine EOps.d 61 (none) (i := 15) rfl rfl rfl rfl rfl (op_fieldAddr_m rfl tf_33_1 rfl ⟨rfl, rfl⟩) ?_) | (refine EOps.d 61 (none) (i := 15) rfl rfl rfl rfl rfl (op_fieldAddr_c rfl tf_33_1 rfl rfl ⟨rfl, rfl⟩) ?_)
    first | (refine EOps.w 0 (i := 16) rfl rfl rfl rfl rfl (op_store (i := 0) rfl ts_31 rfl rfl rfl rfl rfl (Nat.le_of_ble_eq_true rfl) rfl ⟨_, rfl, ?_⟩)) | (refine EOps.w 1 (i := 16) rfl rfl rfl rfl rfl (op_store (i := 0) rfl ts_31 rfl rfl rfl rfl rfl (Nat.le_of_ble_eq_true rfl) rfl ⟨_, rfl, ?_⟩)) | (refine EOps.w 2 (i := 16) rfl rfl rfl rfl rfl (op_store (i := 0) rfl ts_31 rfl rfl rfl rfl rfl (Nat.le_of_ble_eq_true rfl) rfl ⟨_, rfl, ?_⟩)) | (refine EOps.w 3 (i := 16) rfl rfl rfl rfl rfl (op_store (i := 0) rfl ts_31 rfl rfl rfl rfl rfl (Nat.le_of_ble_eq_true rfl) rfl ⟨_, rfl, ?_⟩)) | (refine EOps.w 4 (i := 16) rfl rfl rfl rfl rfl (op_store (i := 0) rfl ts_31 rfl rfl rfl rfl rfl (Nat.le_of_ble_eq_true rfl) rfl ⟨_, rfl, ?_⟩)) | (refine EOps.w 5 (i := 16) rfl rfl rfl rfl rfl (op_store (i := 0) rfl ts_31 rfl rfl rfl rfl rfl (Nat.le_of_ble_eq_true rfl) rfl ⟨_, rfl, ?_⟩)) | (refine EOps.w 6 (i := 16) rfl rfl rfl rfl rfl (op_store (i := 0) rfl ts_31 rfl rfl rfl rfl rfl (Nat.le_of_ble_eq_true rfl) rfl ⟨_, rfl, ?_⟩)) | (refine EOps.w 7 (i := 16) rfl rfl rfl rfl rfl (op_store (i := 0) rfl ts_31 rfl rfl rfl rfl rfl (Nat.le_of_ble_eq_true rfl) rfl ⟨_, rfl, ?_⟩)) | (refine EOps.w 8 (i := 16) rfl rfl rfl rfl rfl (op_store (i := 0) rfl ts_31 rfl rfl rfl rfl rfl (Nat.le_of_ble_eq_true rfl) rfl ⟨_, rfl, ?_⟩)) | (refine EOps.w 9 (i := 16) rfl rfl rfl rfl rfl (op_store (i := 0) rfl ts_31 rfl rfl rfl rfl rfl (Nat.le_of_ble_eq_true rfl) rfl ⟨_, rfl, ?_⟩))
    show AGo _ _ _ _ _ _ _
    refine go_code ?_
    refine c_seq ?_
    refine c_region ?_
    refine AOps.st 62 rfl rfl rfl (op_move rfl rfl ?_)
    first | (refine AOps.st 63 rfl rfl rfl (op_mul rfl rfl rfl (IntWalk.i64_in _ (by omega)) ?_)) | (refine AOps.st 63 rfl rfl rfl (op_mul rfl rfl rfl rfl ?_))
    first | (refine AOps.st 64 rfl rfl rfl (op_convert rfl tu_3 tu_42 rfl (IntWalk.u64_in _ (by omega)) ?_)) | (refine AOps.st 64 rfl rfl rfl (op_convert rfl tu_3 tu_42 rfl rfl ?_))
    refine AOps.st 8 rfl rfl rfl (op_assign rfl rfl ?_)
    refine AOps.nil ?_
    refine go_code ?_
    refine c_ret ?_
    refine out_tmp (M' := [.loc br [.val (.int .i64 sz), .own u59 4 (oRows 1 (H ++ [⟨kd, tg, ps⟩]))], .own 86 4 u59]) rfl rfl (Le.ieq (by omega)) ?_ (.inl ⟨Classical.not_not.1 g42, rfl, _, rfl⟩)
    rw [happ]
    exact MLe.loc _ (Les.cons (Le.refl _) (Les.cons (Le.owns (Less.app (Less.refl _) (Less.cons (Les.cons (Le.ieq (by omega)) (Les.cons (Le.refl _) (Les.cons (Le.refl _) (Les.cons (Le.own_seq (by simp)) (Les.refl _))))) rfl Less.nil))) (Les.refl _))) (.cons _ (MLe.none _))
  · refine c_cond_t rfl ?_
    refine c_seq ?_
    refine c_region ?_
    refine AOps.st 8 rfl rfl rfl (op_assign rfl rfl ?_)
    refine AOps.nil ?_
    refine go_code ?_
    refine c_ret ?_
    exact out_tmp rfl rfl (Le.refl _) (by first | exact MLe.none _ | exact MLe.refl _ | (repeat' (first | exact MLe.nil | exact MLe.refl _ | refine MLe.cons _ ?_ | refine MLe.drop _ ?_))) (.inr ⟨g42, rfl, rfl⟩)
end Go.Proofs.Ytecpnlhjjmcllaa
